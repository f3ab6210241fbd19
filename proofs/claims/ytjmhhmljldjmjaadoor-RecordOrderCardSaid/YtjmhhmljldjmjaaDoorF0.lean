/- Walks of Go functions: what each tells, as a plain Lean function, and that the Go code comes to it. Written by gg.py of this repo. -/
import Derived.Test.YtjmhhmljldjmjaaDoorT
namespace Go.Proofs.YtjmhhmljldjmjaaDoor.Gf
open Go Go.Gg
set_option maxRecDepth 100000
set_option linter.unusedVariables false
set_option linter.unusedSimpArgs false

/-! ### grapevine/grapevinelaw4.one: function 51 -/
def grapevinelaw4_one : Option T27 := some (⟨0, 1, 7, 0, (⟨#[97]⟩ : ByteArray)⟩ : T27)
set_option maxHeartbeats 4000000 in
theorem grapevinelaw4_one_calls {B : World} {G : GMap} {Γ : List Chunk} {W : World} (r : T27) (h : grapevinelaw4_one  = some r) (hI : Inv B G (Γ) W) :
    Calls Tryd.prog 51 [].toArray W (Ret B (fun v G' Γ' => v = .agg #[.int .i64 r.f0, .int .i64 r.f1, .int .i64 r.f2, .int .i64 r.f3, .string r.f4] ∧ G = G' ∧ Γ = Γ')) := by
  refine calls_WP (Γ := Γ) (G := G) (B := B) Tryd.func51 rfl (by kernel_rfl) ?_ hI
  clear hI
  unfold grapevinelaw4_one at h
  refine WP.seqR ?_
  refine WL.op (op := .alloc 27) (ty := 0) (d := some 0) (g := none) (by kernel_rfl) (by kernel_rfl) (by kernel_rfl) (Does.new (o := .cells #[.int .i64 0, .int .i64 0, .int .i64 0, .int .i64 0, .string (⟨#[]⟩ : ByteArray)] 27 (0, 0)) (v := fun r => .pointer (some ⟨r, 0, none⟩)) (fun r => by kernel_rfl)) ?_
  rintro _ _ _ ⟨b1, rfl, rfl, rfl⟩
  refine WL.restQ 1 [0] (L' := [(0, .pointer (some ⟨b1, 0, none⟩))]) (by kernel_rfl) ?_
  refine WP.seqR ?_
  refine WL.pure 0 3 [0, 3] (L' := [(0, .pointer (some ⟨b1, 0, none⟩)), (3, .agg #[.int .i64 0, .int .i64 1, .int .i64 7, .int .i64 0, .string (⟨#[97]⟩ : ByteArray)])]) (by kernel_rfl) (by decide) ?_
  refine WL.op (op := .store 27 (.tmp 0) (.tmp 3)) (ty := 0) (d := none) (g := none) (by kernel_rfl) (by kernel_rfl) (by kernel_rfl) (Does.store_box (i := 0) (b := b1) (o := 0) (v := .agg #[.int .i64 0, .int .i64 1, .int .i64 7, .int .i64 0, .string (⟨#[97]⟩ : ByteArray)]) (by rfl) sz27 (by kernel_rfl) (by kernel_rfl) (by kernel_rfl) (Free.zero _) (Nat.le_of_ble_eq_true rfl) (cells' := #[.int .i64 0, .int .i64 1, .int .i64 7, .int .i64 0, .string (⟨#[97]⟩ : ByteArray)]) (by kernel_rfl)) ?_
  rintro _ _ _ ⟨rfl, rfl, rfl⟩
  refine WL.restQ 4 [0] (L' := [(0, .pointer (some ⟨b1, 0, none⟩))]) (by kernel_rfl) ?_
  refine WP.ret ?_
  obtain rfl := Option.some.inj h
  exact QP.returnedM (rs := [.cell 0 27]) (by kernel_rfl) (ResAll.cons (Res1.box (p := 0) (i := 0) (o := 0) (agg := true) (by rfl) ag27 (by kernel_rfl) (fun h => by cases h) (Nat.le_of_ble_eq_true rfl) (v := .agg #[.int .i64 0, .int .i64 1, .int .i64 7, .int .i64 0, .string (⟨#[97]⟩ : ByteArray)]) (by kernel_rfl)) ResAll.nil) (by kernel_rfl) (fun W hI => ⟨_, _, _, rfl, ⟨rfl, rfl, rfl⟩, (hI.less 0 rfl)⟩)

/-! ### grapevine/stamp.wall: function 73 -/
def stamp_wall (a0 : Int) : Option Bool := ((if a0 ≥ 0 then some (decide (a0 ≤ 1099511627776)) else some false).bind fun s1 => some s1)
set_option maxHeartbeats 4000000 in
theorem stamp_wall_calls {B : World} {G : GMap} {Γ : List Chunk} {W : World} (a0 : Int) (r : Bool) (h : stamp_wall a0 = some r) (hI : Inv B G (Γ) W) :
    Calls Tryd.prog 73 [.int .i64 a0].toArray W (Ret B (fun v G' Γ' => v = .bool r ∧ G = G' ∧ Γ = Γ')) := by
  refine calls_WP (Γ := Γ) (G := G) (B := B) Tryd.func73 rfl (by kernel_rfl) ?_ hI
  clear hI
  unfold stamp_wall at h
  refine WP.seqP [0] (L' := [(0, .int .i64 a0)]) (by kernel_rfl) ?_
  rw [Option.bind_eq_some_iff] at h
  obtain ⟨os1, h, hk2⟩ := h
  refine WP.cut (fun L' G' Γ' => ∃ s1 : Bool, s1 = os1 ∧ L' = [(2, .bool s1)] ∧ G = G' ∧ Γ = Γ') ?_ ?_
  · clear hk2
    refine WP.region ?_
    refine WL.pure 0 3 [0, 5] (L' := [(0, .int .i64 a0), (5, .bool (decide (a0 ≥ 0)))]) (by kernel_rfl) (by decide) ?_
    refine WL.split 5 (b := decide (a0 ≥ 0)) (by kernel_rfl) (fun hc => ?_) (fun hc => ?_)
    · replace hc := of_decide_eq_true hc
      rw [if_pos hc] at h
      have hc3 := hc
      clear hc
      refine WL.rest 3 [2] (L' := [(2, .bool (decide (a0 ≤ 1099511627776)))]) (by kernel_rfl) ?_
      refine QP.pick [2] ?_
      exact QP.meet ⟨_, Option.some.inj h, rfl, rfl, rfl⟩
    · replace hc := of_decide_eq_false hc
      rw [if_neg hc] at h
      have hc3 := hc
      clear hc
      refine WL.rest 3 [2] (L' := [(2, .bool false)]) (by kernel_rfl) ?_
      refine QP.pick [2] ?_
      exact QP.meet ⟨_, Option.some.inj h, rfl, rfl, rfl⟩
  · rintro _ _ _ ⟨s1, rfl, rfl, rfl, rfl⟩
    clear h
    replace h := hk2
    refine WP.ret ?_
    obtain rfl := Option.some.inj h
    exact QP.returned [2] [.bool s1] _ (by kernel_rfl) (by kernel_rfl) (by kernel_rfl) (fun W hI => ⟨_, _, _, rfl, ⟨rfl, rfl, rfl⟩, hI⟩)

/-! ### grapevine/stamp.May: function 56 -/
def stamp_May (a0 : T25) : Option Bool := (((stamp_wall a0.f0).bind fun t4 => (if t4 = true then (if a0.f1 ≥ 0 then some (decide (a0.f1 ≤ 65535)) else some false) else some false)).bind fun s2 => some s2)
set_option maxHeartbeats 4000000 in
theorem stamp_May_calls {B : World} {G : GMap} {Γ : List Chunk} {W : World} (a0 : T25) (r : Bool) (h : stamp_May a0 = some r) (hI : Inv B G (Γ) W) :
    Calls Tryd.prog 56 [.agg #[.int .i64 a0.f0, .int .i64 a0.f1]].toArray W (Ret B (fun v G' Γ' => v = .bool r ∧ G = G' ∧ Γ = Γ')) := by
  refine calls_WP (Γ := Γ) (G := G) (B := B) Tryd.func56 rfl (by kernel_rfl) ?_ hI
  clear hI
  unfold stamp_May at h
  refine WP.seqR ?_
  refine WL.op (op := .box 25 (.tmp 0)) (ty := 0) (d := some 1) (g := none) (by kernel_rfl) (by kernel_rfl) (by kernel_rfl) (Does.new (o := .cells #[.int .i64 a0.f0, .int .i64 a0.f1] 25 (0, 0)) (v := fun r => .pointer (some ⟨r, 0, none⟩)) (fun r => by kernel_rfl)) ?_
  rintro _ _ _ ⟨b1, rfl, rfl, rfl⟩
  refine WL.restQ 1 [1] (L' := [(1, .pointer (some ⟨b1, 0, none⟩))]) (by kernel_rfl) ?_
  rw [Option.bind_eq_some_iff] at h
  obtain ⟨os2, h, hk3⟩ := h
  refine WP.cut (fun L' G' Γ' => ∃ s2 : Bool, s2 = os2 ∧ L' = [(2, .bool s2)] ∧ G = G' ∧ Γ = Γ') ?_ ?_
  · clear hk3
    refine WP.region ?_
    refine WL.pure 0 1 [1, 3] (L' := [(1, .pointer (some ⟨b1, 0, none⟩)), (3, .pointer (some ⟨b1, 0, none⟩))]) (by kernel_rfl) (by decide) ?_
    refine WL.tell (op := .load 3 (.tmp 3)) (ty := 3) (d := some 4) (g := none) (by kernel_rfl) (by kernel_rfl) (by kernel_rfl) (Tells.load_box (i := 0) (b := b1) (o := 0) (agg := false) (by rfl) ag3 (by kernel_rfl) (fun _ => rfl) (Nat.le_of_ble_eq_true rfl) (v := .int .i64 a0.f0) (by kernel_rfl)) ?_
    rw [Option.bind_eq_some_iff] at h
    obtain ⟨t4, ht5, h⟩ := h
    refine WL.op (op := .call { callee := (.value (.func 73)), args := #[(.tmp 4)], argTypes := #[3] }) (ty := 4) (d := some 5) (g := none) (by kernel_rfl) (by kernel_rfl) (by kernel_rfl) (Does.call (f := 73) (args := [.int .i64 a0.f0]) (by kernel_rfl) (fun W hI => (stamp_wall_calls a0.f0  t4 ht5 hI))) ?_
    rintro _ _ _ ⟨rfl, rfl, rfl⟩
    refine WL.pure 3 4 [1, 6] (L' := [(1, .pointer (some ⟨b1, 0, none⟩)), (6, .bool t4)]) (by kernel_rfl) (by decide) ?_
    refine WL.split 6 (b := t4) (by kernel_rfl) (fun hc => ?_) (fun hc => ?_)
    · replace hc := hc
      rw [if_pos hc] at h
      have hc8 := hc
      clear hc
      refine WL.pure 4 5 [1, 6, 7] (L' := [(1, .pointer (some ⟨b1, 0, none⟩)), (6, .bool true), (7, .pointer (some ⟨b1, 1, none⟩))]) (by kernel_rfl) (by decide) ?_
      refine WL.tell (op := .load 3 (.tmp 7)) (ty := 3) (d := some 8) (g := some (3, true)) (by kernel_rfl) (by kernel_rfl) (by kernel_rfl) (Tells.load_box (i := 0) (b := b1) (o := 1) (agg := false) (by rfl) ag3 (by kernel_rfl) (fun _ => rfl) (Nat.le_of_ble_eq_true rfl) (v := .int .i64 a0.f1) (by kernel_rfl)) ?_
      refine WL.pure 6 9 [1, 11] (L' := [(1, .pointer (some ⟨b1, 0, none⟩)), (11, .bool (decide (a0.f1 ≥ 0)))]) (by kernel_rfl) (by decide) ?_
      refine WL.split 11 (b := decide (a0.f1 ≥ 0)) (by kernel_rfl) (fun hc => ?_) (fun hc => ?_)
      · replace hc := of_decide_eq_true hc
        rw [if_pos hc] at h
        have hc9 := hc
        clear hc
        refine WL.pure 9 10 [11, 12] (L' := [(11, .bool true), (12, .pointer (some ⟨b1, 1, none⟩))]) (by kernel_rfl) (by decide) ?_
        refine WL.tell (op := .load 3 (.tmp 12)) (ty := 3) (d := some 13) (g := some (8, true)) (by kernel_rfl) (by kernel_rfl) (by kernel_rfl) (Tells.load_box (i := 0) (b := b1) (o := 1) (agg := false) (by rfl) ag3 (by kernel_rfl) (fun _ => rfl) (Nat.le_of_ble_eq_true rfl) (v := .int .i64 a0.f1) (by kernel_rfl)) ?_
        refine WL.rest 11 [2] (L' := [(2, .bool (decide (a0.f1 ≤ 65535)))]) (by kernel_rfl) ?_
        refine QP.dropAt 0 ?_
        refine QP.pick [2] ?_
        exact QP.meet ⟨_, Option.some.inj h, rfl, rfl, rfl⟩
      · replace hc := of_decide_eq_false hc
        rw [if_neg hc] at h
        have hc9 := hc
        clear hc
        refine WL.rest 9 [2] (L' := [(2, .bool false)]) (by kernel_rfl) ?_
        refine QP.dropAt 0 ?_
        refine QP.pick [2] ?_
        exact QP.meet ⟨_, Option.some.inj h, rfl, rfl, rfl⟩
    · replace hc := (Bool.eq_false_iff.1 hc)
      rw [if_neg hc] at h
      have hc8 := hc
      clear hc
      refine WL.rest 4 [2] (L' := [(2, .bool false)]) (by kernel_rfl) ?_
      refine QP.dropAt 0 ?_
      refine QP.pick [2] ?_
      exact QP.meet ⟨_, Option.some.inj h, rfl, rfl, rfl⟩
  · rintro _ _ _ ⟨s2, rfl, rfl, rfl, rfl⟩
    clear h
    replace h := hk3
    refine WP.ret ?_
    obtain rfl := Option.some.inj h
    exact QP.returned [2] [.bool s2] _ (by kernel_rfl) (by kernel_rfl) (by kernel_rfl) (fun W hI => ⟨_, _, _, rfl, ⟨rfl, rfl, rfl⟩, hI⟩)

/-! ### unicode/utf8.ValidString: function 50 -/
def utf8_ValidString (a0 : ByteArray) : Option Bool := (if a0.size ≤ 9223372036854775807 then some (Lib.validD a0.data.toList) else none)
set_option maxHeartbeats 4000000 in
theorem utf8_ValidString_calls {B : World} {G : GMap} {Γ : List Chunk} {W : World} (HT : Tabs B G) (a0 : ByteArray) (r : Bool) (h : utf8_ValidString a0 = some r) (hI : Inv B G (Γ) W) :
    Calls Tryd.prog 50 [.string a0].toArray W (Ret B (fun v G' Γ' => v = .bool r ∧ G = G' ∧ Γ = Γ')) := by
  unfold utf8_ValidString at h
  by_cases hs : a0.size ≤ 9223372036854775807
  case neg => rw [if_neg hs] at h; cases h
  rw [if_pos hs] at h
  obtain rfl := Option.some.inj h
  exact Calls.kept (Any.utf8_ValidString Tryd.laysValid a0 W hs (HT _ _ hI)) hI

/-! ### grapevine/tokens.May: function 43 -/
def tokens_May (a0 : ByteArray) : Option Bool := ((if (a0.size : Int) ≤ 120 then ((utf8_ValidString a0).bind fun t4 => some t4) else some false).bind fun s1 => some s1)
set_option maxHeartbeats 4000000 in
theorem tokens_May_calls {B : World} {G : GMap} {Γ : List Chunk} {W : World} (HT : Tabs B G) (a0 : ByteArray) (r : Bool) (h : tokens_May a0 = some r) (hI : Inv B G (Γ) W) :
    Calls Tryd.prog 43 [.string a0].toArray W (Ret B (fun v G' Γ' => v = .bool r ∧ G = G' ∧ Γ = Γ')) := by
  refine calls_WP (Γ := Γ) (G := G) (B := B) Tryd.func43 rfl (by kernel_rfl) ?_ hI
  clear hI
  unfold tokens_May at h
  refine WP.seqP [0] (L' := [(0, .string a0)]) (by kernel_rfl) ?_
  rw [Option.bind_eq_some_iff] at h
  obtain ⟨os1, h, hk2⟩ := h
  refine WP.cut (fun L' G' Γ' => ∃ s1 : Bool, s1 = os1 ∧ L' = [(2, .bool s1)] ∧ G = G' ∧ Γ = Γ') ?_ ?_
  · clear hk2
    refine WP.region ?_
    refine WL.pure 0 4 [0, 6] (L' := [(0, .string a0), (6, .bool (decide ((a0.size : Int) ≤ 120)))]) (by kernel_rfl) (by decide) ?_
    refine WL.split 6 (b := decide ((a0.size : Int) ≤ 120)) (by kernel_rfl) (fun hc => ?_) (fun hc => ?_)
    · replace hc := of_decide_eq_true hc
      rw [if_pos hc] at h
      have hc3 := hc
      clear hc
      refine WL.pure 4 5 [6, 7] (L' := [(6, .bool true), (7, .string a0)]) (by kernel_rfl) (by decide) ?_
      rw [Option.bind_eq_some_iff] at h
      obtain ⟨t4, ht5, h⟩ := h
      refine WL.op (op := .call { callee := (.value (.func 50)), args := #[(.tmp 7)], argTypes := #[9] }) (ty := 4) (d := some 8) (g := some (3, true)) (by kernel_rfl) (by kernel_rfl) (by kernel_rfl) (Does.call (f := 50) (args := [.string a0]) (by kernel_rfl) (fun W hI => (utf8_ValidString_calls HT a0  t4 ht5 hI))) ?_
      rintro _ _ _ ⟨rfl, rfl, rfl⟩
      refine WL.rest 6 [2] (L' := [(2, .bool t4)]) (by kernel_rfl) ?_
      refine QP.pick [2] ?_
      exact QP.meet ⟨_, Option.some.inj h, rfl, rfl, rfl⟩
    · replace hc := of_decide_eq_false hc
      rw [if_neg hc] at h
      have hc3 := hc
      clear hc
      refine WL.rest 4 [2] (L' := [(2, .bool false)]) (by kernel_rfl) ?_
      refine QP.pick [2] ?_
      exact QP.meet ⟨_, Option.some.inj h, rfl, rfl, rfl⟩
  · rintro _ _ _ ⟨s1, rfl, rfl, rfl, rfl⟩
    clear h
    replace h := hk2
    refine WP.ret ?_
    obtain rfl := Option.some.inj h
    exact QP.returned [2] [.bool s1] _ (by kernel_rfl) (by kernel_rfl) (by kernel_rfl) (fun W hI => ⟨_, _, _, rfl, ⟨rfl, rfl, rfl⟩, hI⟩)

/-! ### grapevine/record.May: function 23 -/
def record_May (a0 : T27) : Option Bool := ((if a0.f0 ≥ 0 then (if a0.f0 < 8 then (if a0.f1 ≥ 1 then (if a0.f1 ≤ 1023 then ((stamp_May (⟨a0.f2, a0.f3⟩ : T25)).bind fun t8 => (if t8 = true then ((tokens_May a0.f4).bind fun t13 => some t13) else some false)) else some false) else some false) else some false) else some false).bind fun s2 => some s2)
set_option maxHeartbeats 4000000 in
theorem record_May_calls {B : World} {G : GMap} {Γ : List Chunk} {W : World} (HT : Tabs B G) (a0 : T27) (r : Bool) (h : record_May a0 = some r) (hI : Inv B G (Γ) W) :
    Calls Tryd.prog 23 [.agg #[.int .i64 a0.f0, .int .i64 a0.f1, .int .i64 a0.f2, .int .i64 a0.f3, .string a0.f4]].toArray W (Ret B (fun v G' Γ' => v = .bool r ∧ G = G' ∧ Γ = Γ')) := by
  refine calls_WP (Γ := Γ) (G := G) (B := B) Tryd.func23 rfl (by kernel_rfl) ?_ hI
  clear hI
  unfold record_May at h
  refine WP.seqR ?_
  refine WL.op (op := .box 27 (.tmp 0)) (ty := 0) (d := some 1) (g := none) (by kernel_rfl) (by kernel_rfl) (by kernel_rfl) (Does.new (o := .cells #[.int .i64 a0.f0, .int .i64 a0.f1, .int .i64 a0.f2, .int .i64 a0.f3, .string a0.f4] 27 (0, 0)) (v := fun r => .pointer (some ⟨r, 0, none⟩)) (fun r => by kernel_rfl)) ?_
  rintro _ _ _ ⟨b1, rfl, rfl, rfl⟩
  refine WL.restQ 1 [1] (L' := [(1, .pointer (some ⟨b1, 0, none⟩))]) (by kernel_rfl) ?_
  rw [Option.bind_eq_some_iff] at h
  obtain ⟨os2, h, hk3⟩ := h
  refine WP.cut (fun L' G' Γ' => ∃ s2 : Bool, s2 = os2 ∧ L' = [(2, .bool s2)] ∧ G = G' ∧ Γ = Γ') ?_ ?_
  · clear hk3
    refine WP.region ?_
    refine WL.pure 0 2 [1, 4] (L' := [(1, .pointer (some ⟨b1, 0, none⟩)), (4, .pointer (some ⟨b1, 0, none⟩))]) (by kernel_rfl) (by decide) ?_
    refine WL.tell (op := .load 3 (.tmp 4)) (ty := 3) (d := some 5) (g := none) (by kernel_rfl) (by kernel_rfl) (by kernel_rfl) (Tells.load_box (i := 0) (b := b1) (o := 0) (agg := false) (by rfl) ag3 (by kernel_rfl) (fun _ => rfl) (Nat.le_of_ble_eq_true rfl) (v := .int .i64 a0.f0) (by kernel_rfl)) ?_
    refine WL.pure 3 5 [1, 7] (L' := [(1, .pointer (some ⟨b1, 0, none⟩)), (7, .bool (decide (a0.f0 ≥ 0)))]) (by kernel_rfl) (by decide) ?_
    refine WL.split 7 (b := decide (a0.f0 ≥ 0)) (by kernel_rfl) (fun hc => ?_) (fun hc => ?_)
    · replace hc := of_decide_eq_true hc
      rw [if_pos hc] at h
      have hc4 := hc
      clear hc
      refine WL.pure 5 7 [1, 7, 9] (L' := [(1, .pointer (some ⟨b1, 0, none⟩)), (7, .bool true), (9, .pointer (some ⟨b1, 0, none⟩))]) (by kernel_rfl) (by decide) ?_
      refine WL.tell (op := .load 3 (.tmp 9)) (ty := 3) (d := some 10) (g := some (4, true)) (by kernel_rfl) (by kernel_rfl) (by kernel_rfl) (Tells.load_box (i := 0) (b := b1) (o := 0) (agg := false) (by rfl) ag3 (by kernel_rfl) (fun _ => rfl) (Nat.le_of_ble_eq_true rfl) (v := .int .i64 a0.f0) (by kernel_rfl)) ?_
      refine WL.pure 8 11 [1, 13] (L' := [(1, .pointer (some ⟨b1, 0, none⟩)), (13, .bool (decide (a0.f0 < 8)))]) (by kernel_rfl) (by decide) ?_
      refine WL.split 13 (b := decide (a0.f0 < 8)) (by kernel_rfl) (fun hc => ?_) (fun hc => ?_)
      · replace hc := of_decide_eq_true hc
        rw [if_pos hc] at h
        have hc5 := hc
        clear hc
        refine WL.pure 11 13 [1, 13, 15] (L' := [(1, .pointer (some ⟨b1, 0, none⟩)), (13, .bool true), (15, .pointer (some ⟨b1, 1, none⟩))]) (by kernel_rfl) (by decide) ?_
        refine WL.tell (op := .load 3 (.tmp 15)) (ty := 3) (d := some 16) (g := some (10, true)) (by kernel_rfl) (by kernel_rfl) (by kernel_rfl) (Tells.load_box (i := 0) (b := b1) (o := 1) (agg := false) (by rfl) ag3 (by kernel_rfl) (fun _ => rfl) (Nat.le_of_ble_eq_true rfl) (v := .int .i64 a0.f1) (by kernel_rfl)) ?_
        refine WL.pure 14 17 [1, 19] (L' := [(1, .pointer (some ⟨b1, 0, none⟩)), (19, .bool (decide (a0.f1 ≥ 1)))]) (by kernel_rfl) (by decide) ?_
        refine WL.split 19 (b := decide (a0.f1 ≥ 1)) (by kernel_rfl) (fun hc => ?_) (fun hc => ?_)
        · replace hc := of_decide_eq_true hc
          rw [if_pos hc] at h
          have hc6 := hc
          clear hc
          refine WL.pure 17 19 [1, 19, 21] (L' := [(1, .pointer (some ⟨b1, 0, none⟩)), (19, .bool true), (21, .pointer (some ⟨b1, 1, none⟩))]) (by kernel_rfl) (by decide) ?_
          refine WL.tell (op := .load 3 (.tmp 21)) (ty := 3) (d := some 22) (g := some (16, true)) (by kernel_rfl) (by kernel_rfl) (by kernel_rfl) (Tells.load_box (i := 0) (b := b1) (o := 1) (agg := false) (by rfl) ag3 (by kernel_rfl) (fun _ => rfl) (Nat.le_of_ble_eq_true rfl) (v := .int .i64 a0.f1) (by kernel_rfl)) ?_
          refine WL.pure 20 23 [1, 25] (L' := [(1, .pointer (some ⟨b1, 0, none⟩)), (25, .bool (decide (a0.f1 ≤ 1023)))]) (by kernel_rfl) (by decide) ?_
          refine WL.split 25 (b := decide (a0.f1 ≤ 1023)) (by kernel_rfl) (fun hc => ?_) (fun hc => ?_)
          · replace hc := of_decide_eq_true hc
            rw [if_pos hc] at h
            have hc7 := hc
            clear hc
            refine WL.pure 23 24 [1, 25, 26] (L' := [(1, .pointer (some ⟨b1, 0, none⟩)), (25, .bool true), (26, .pointer (some ⟨b1, 2, none⟩))]) (by kernel_rfl) (by decide) ?_
            refine WL.tell (op := .load 25 (.tmp 26)) (ty := 25) (d := some 27) (g := some (22, true)) (by kernel_rfl) (by kernel_rfl) (by kernel_rfl) (Tells.load_box (i := 0) (b := b1) (o := 2) (agg := true) (by rfl) ag25 (by kernel_rfl) (fun h => by cases h) (Nat.le_of_ble_eq_true rfl) (v := .agg #[.int .i64 a0.f2, .int .i64 a0.f3]) (by kernel_rfl)) ?_
            rw [Option.bind_eq_some_iff] at h
            obtain ⟨t8, ht9, h⟩ := h
            refine WL.op (op := .call { callee := (.value (.func 56)), args := #[(.tmp 27)], argTypes := #[25] }) (ty := 4) (d := some 28) (g := some (22, true)) (by kernel_rfl) (by kernel_rfl) (by kernel_rfl) (Does.call (f := 56) (args := [.agg #[.int .i64 a0.f2, .int .i64 a0.f3]]) (by kernel_rfl) (fun W hI => (stamp_May_calls (⟨a0.f2, a0.f3⟩ : T25)  t8 ht9 hI))) ?_
            rintro _ _ _ ⟨rfl, rfl, rfl⟩
            refine WL.pure 26 28 [1, 30] (L' := [(1, .pointer (some ⟨b1, 0, none⟩)), (30, .bool t8)]) (by kernel_rfl) (by decide) ?_
            refine WL.split 30 (b := t8) (by kernel_rfl) (fun hc => ?_) (fun hc => ?_)
            · replace hc := hc
              rw [if_pos hc] at h
              have hc12 := hc
              clear hc
              refine WL.pure 28 29 [30, 31] (L' := [(30, .bool true), (31, .pointer (some ⟨b1, 4, none⟩))]) (by kernel_rfl) (by decide) ?_
              refine WL.tell (op := .load 9 (.tmp 31)) (ty := 9) (d := some 32) (g := some (27, true)) (by kernel_rfl) (by kernel_rfl) (by kernel_rfl) (Tells.load_box (i := 0) (b := b1) (o := 4) (agg := false) (by rfl) ag9 (by kernel_rfl) (fun _ => rfl) (Nat.le_of_ble_eq_true rfl) (v := .string a0.f4) (by kernel_rfl)) ?_
              rw [Option.bind_eq_some_iff] at h
              obtain ⟨t13, ht14, h⟩ := h
              refine WL.op (op := .call { callee := (.value (.func 43)), args := #[(.tmp 32)], argTypes := #[9] }) (ty := 4) (d := some 33) (g := some (27, true)) (by kernel_rfl) (by kernel_rfl) (by kernel_rfl) (Does.call (f := 43) (args := [.string a0.f4]) (by kernel_rfl) (fun W hI => (tokens_May_calls HT a0.f4  t13 ht14 hI))) ?_
              rintro _ _ _ ⟨rfl, rfl, rfl⟩
              refine WL.rest 31 [2] (L' := [(2, .bool t13)]) (by kernel_rfl) ?_
              refine QP.dropAt 0 ?_
              refine QP.pick [2] ?_
              exact QP.meet ⟨_, Option.some.inj h, rfl, rfl, rfl⟩
            · replace hc := (Bool.eq_false_iff.1 hc)
              rw [if_neg hc] at h
              have hc12 := hc
              clear hc
              refine WL.rest 28 [2] (L' := [(2, .bool false)]) (by kernel_rfl) ?_
              refine QP.dropAt 0 ?_
              refine QP.pick [2] ?_
              exact QP.meet ⟨_, Option.some.inj h, rfl, rfl, rfl⟩
          · replace hc := of_decide_eq_false hc
            rw [if_neg hc] at h
            have hc7 := hc
            clear hc
            refine WL.rest 23 [2] (L' := [(2, .bool false)]) (by kernel_rfl) ?_
            refine QP.dropAt 0 ?_
            refine QP.pick [2] ?_
            exact QP.meet ⟨_, Option.some.inj h, rfl, rfl, rfl⟩
        · replace hc := of_decide_eq_false hc
          rw [if_neg hc] at h
          have hc6 := hc
          clear hc
          refine WL.rest 17 [2] (L' := [(2, .bool false)]) (by kernel_rfl) ?_
          refine QP.dropAt 0 ?_
          refine QP.pick [2] ?_
          exact QP.meet ⟨_, Option.some.inj h, rfl, rfl, rfl⟩
      · replace hc := of_decide_eq_false hc
        rw [if_neg hc] at h
        have hc5 := hc
        clear hc
        refine WL.rest 11 [2] (L' := [(2, .bool false)]) (by kernel_rfl) ?_
        refine QP.dropAt 0 ?_
        refine QP.pick [2] ?_
        exact QP.meet ⟨_, Option.some.inj h, rfl, rfl, rfl⟩
    · replace hc := of_decide_eq_false hc
      rw [if_neg hc] at h
      have hc4 := hc
      clear hc
      refine WL.rest 5 [2] (L' := [(2, .bool false)]) (by kernel_rfl) ?_
      refine QP.dropAt 0 ?_
      refine QP.pick [2] ?_
      exact QP.meet ⟨_, Option.some.inj h, rfl, rfl, rfl⟩
  · rintro _ _ _ ⟨s2, rfl, rfl, rfl, rfl⟩
    clear h
    replace h := hk3
    refine WP.ret ?_
    obtain rfl := Option.some.inj h
    exact QP.returned [2] [.bool s2] _ (by kernel_rfl) (by kernel_rfl) (by kernel_rfl) (fun W hI => ⟨_, _, _, rfl, ⟨rfl, rfl, rfl⟩, hI⟩)

/-! ### grapevine/record.put: function 52 -/
def record_put_l0 (a1 : Int) : Nat → (List Int) → Int → Option (List Int)
  | 0, _, _ => none
  | k + 1, y3, y4 => (if y4 > 0 then (if 0 ≤ (IntKind.i64.wrap (8 * (IntKind.i64.wrap (y4 - 1)))) then (if y3.length + ([IntKind.u8.wrap (shrK .i64 a1 (IntKind.i64.wrap (8 * (IntKind.i64.wrap (y4 - 1)))))] : List Int).length ≤ 1073741824 then record_put_l0 a1 k (y3 ++ ([IntKind.u8.wrap (shrK .i64 a1 (IntKind.i64.wrap (8 * (IntKind.i64.wrap (y4 - 1)))))] : List Int)) (IntKind.i64.wrap (y4 - 1)) else none) else none) else some y3)
def record_put (k : Nat) (l0 : List Int) (a1 : Int) (a2 : Int) : Option (List Int) := ((record_put_l0 a1 k l0 a2).bind fun s1 => some s1)
set_option maxHeartbeats 4000000 in
theorem record_put_calls {B : World} {G : GMap} {Γ : List Chunk} {W : World} (k : Nat) (l0 : List Int) (a1 : Int) (a2 : Int) (Al0 : Option Addr) (cl0 : Nat) (Cl0 : Chunk) (Hl0 : Ow (kInt .u8) G Al0 cl0 l0 Cl0) (r : List Int) (h : record_put k l0 a1 a2 = some r) (hI : Inv B G (Cl0 :: Γ) W) :
    Calls Tryd.prog 52 [.slice Al0 l0.length cl0, .int .i64 a1, .int .i64 a2].toArray W (Ret B (fun v G' Γ' => ∃ (AR : Option Addr), ∃ (cR : Nat), ∃ (CR : Chunk), v = .slice AR r.length cR ∧ Ow (kInt .u8) G' AR cR r CR ∧ G = G' ∧ CR :: Γ = Γ')) := by
  refine calls_WP (Γ := Cl0 :: Γ) (G := G) (B := B) Tryd.func52 rfl (by kernel_rfl) ?_ hI
  clear hI
  unfold record_put at h
  refine WP.seqP [0, 1, 2] (L' := [(0, .slice Al0 l0.length cl0), (1, .int .i64 a1), (2, .int .i64 a2)]) (by kernel_rfl) ?_
  rw [Option.bind_eq_some_iff] at h
  obtain ⟨os1, h, hk2⟩ := h
  refine WP.cut (fun L' G' Γ' => ∃ s1 : (List Int), s1 = os1 ∧ ∃ (As1 : Option Addr), ∃ (cs1 : Nat), ∃ (Cs1 : Chunk), L' = [(0, .slice As1 s1.length cs1)] ∧ G = G' ∧ Cs1 :: Γ = Γ' ∧ Ow (kInt .u8) G As1 cs1 s1 Cs1) ?_ ?_
  · clear hk2
    refine WP.block ?_
    refine WP.pick [0, 1, 2] ?_
    refine WP.loopF (fun kn5 L' G' Γ' => ∃ (y3 : List Int), ∃ (y4 : Int), record_put_l0 a1 kn5 y3 y4 = some os1 ∧ ∃ (Ay3 : Option Addr), ∃ (cy3 : Nat), ∃ (Cy3 : Chunk), L' = [(0, .slice Ay3 y3.length cy3), (1, .int .i64 a1), (2, .int .i64 y4)] ∧ G = G' ∧ Cy3 :: Γ = Γ' ∧ Ow (kInt .u8) G Ay3 cy3 y3 Cy3) ?_ k ⟨l0, a2, h, Al0, cl0, Cl0, rfl, rfl, rfl, Hl0⟩
    clear h
    rintro kn6 _ _ _ ⟨y3, y4, h, Ay3, cy3, Cy3, rfl, rfl, rfl, Hy3⟩
    cases kn6 with
    | zero => exact absurd h (by simp [record_put_l0])
    | succ kn6 =>
      simp only [record_put_l0] at h
      refine WP.seq ?_
      refine WP.seqP [0, 1, 2, 8] (L' := [(0, .slice Ay3 y3.length cy3), (1, .int .i64 a1), (2, .int .i64 y4), (8, .bool (decide (y4 > 0)))]) (by kernel_rfl) ?_
      refine WP.cond (b := decide (y4 > 0)) (by kernel_rfl) (fun hc => ?_) (fun hc => ?_)
      · replace hc := of_decide_eq_true hc
        rw [if_pos hc] at h
        have hc7 := hc
        clear hc
        refine WP.skip ?_
        refine QP.next ?_
        refine WP.pick [0, 1, 2] ?_
        refine WP.block ?_
        refine WP.seqP [0, 1, 2] (L' := [(0, .slice Ay3 y3.length cy3), (1, .int .i64 a1), (2, .int .i64 (IntKind.i64.wrap (y4 - 1)))]) (by kernel_rfl) ?_
        refine WP.region ?_
        refine WL.pure 0 4 [0, 1, 2, 11, 12, 14] (L' := [(0, .slice Ay3 y3.length cy3), (1, .int .i64 a1), (2, .int .i64 (IntKind.i64.wrap (y4 - 1))), (11, .slice Ay3 y3.length cy3), (12, .int .i64 a1), (14, .int .i64 (IntKind.i64.wrap (8 * (IntKind.i64.wrap (y4 - 1)))))]) (by kernel_rfl) (by decide) ?_
        by_cases hb8 : 0 ≤ (IntKind.i64.wrap (8 * (IntKind.i64.wrap (y4 - 1))))
        case neg => rw [if_neg hb8] at h; cases h
        rw [if_pos hb8] at h
        refine WL.tell (op := .binOp .shr 3 (.tmp 12) (.tmp 14) 3) (ty := 3) (d := some 15) (g := none) (by kernel_rfl) (by kernel_rfl) (by kernel_rfl) (Tells.shr (k := .i64) (k' := .i64) (a := a1) (b := (IntKind.i64.wrap (8 * (IntKind.i64.wrap (y4 - 1))))) (by kernel_rfl) (by kernel_rfl) hb8) ?_
        refine WL.pure 5 6 [0, 1, 2, 11, 16] (L' := [(0, .slice Ay3 y3.length cy3), (1, .int .i64 a1), (2, .int .i64 (IntKind.i64.wrap (y4 - 1))), (11, .slice Ay3 y3.length cy3), (16, .int .u8 (IntKind.u8.wrap (shrK .i64 a1 (IntKind.i64.wrap (8 * (IntKind.i64.wrap (y4 - 1)))))))]) (by kernel_rfl) (by decide) ?_
        refine WL.op (op := .buildSlice 29 1 #[(0, (.tmp 16))]) (ty := 29) (d := some 17) (g := none) (by kernel_rfl) (by kernel_rfl) (by kernel_rfl) (Does.new (o := .cells #[.int .u8 (IntKind.u8.wrap (shrK .i64 a1 (IntKind.i64.wrap (8 * (IntKind.i64.wrap (y4 - 1))))))] 5 (0, 0)) (v := fun r => .slice (some ⟨r, 0, none⟩) 1 1) (fun r => by kernel_rfl)) ?_
        rintro _ _ _ ⟨b9, rfl, rfl, rfl⟩
        have Ho11 : Ow (kInt .u8) G (some ⟨b9, 0, none⟩) 1 ([IntKind.u8.wrap (shrK .i64 a1 (IntKind.i64.wrap (8 * (IntKind.i64.wrap (y4 - 1)))))] : List Int) [(b9, .cells #[.int .u8 (IntKind.u8.wrap (shrK .i64 a1 (IntKind.i64.wrap (8 * (IntKind.i64.wrap (y4 - 1))))))] 5 (0, 0))] := Ow.lit (kd := (kInt .u8)) (G := G) (b := b9) (T := 5) (xs := ([IntKind.u8.wrap (shrK .i64 a1 (IntKind.i64.wrap (8 * (IntKind.i64.wrap (y4 - 1)))))] : List Int)) (cs := [.int .u8 (IntKind.u8.wrap (shrK .i64 a1 (IntKind.i64.wrap (8 * (IntKind.i64.wrap (y4 - 1))))))]) (.cons (x := (IntKind.u8.wrap (shrK .i64 a1 (IntKind.i64.wrap (8 * (IntKind.i64.wrap (y4 - 1))))))) (cs := [.int .u8 (IntKind.u8.wrap (shrK .i64 a1 (IntKind.i64.wrap (8 * (IntKind.i64.wrap (y4 - 1))))))]) (by exact rfl) .nil)
        by_cases hb12 : y3.length + ([IntKind.u8.wrap (shrK .i64 a1 (IntKind.i64.wrap (8 * (IntKind.i64.wrap (y4 - 1)))))] : List Int).length ≤ 1073741824
        case neg => rw [if_neg hb12] at h; cases h
        rw [if_pos hb12] at h
        refine WL.op (op := .call { callee := (.builtin .append), args := #[(.tmp 11), (.tmp 17)], argTypes := #[29, 29] }) (ty := 29) (d := some 18) (g := none) (by kernel_rfl) (by kernel_rfl) (by kernel_rfl) (Ow.append (ys := ([IntKind.u8.wrap (shrK .i64 a1 (IntKind.i64.wrap (8 * (IntKind.i64.wrap (y4 - 1)))))] : List Int)) (v := .slice (some ⟨b9, 0, none⟩) ([IntKind.u8.wrap (shrK .i64 a1 (IntKind.i64.wrap (8 * (IntKind.i64.wrap (y4 - 1)))))] : List Int).length 1) Hy3 (i := 1) rfl (by kernel_rfl) (by kernel_rfl) (Ho11.src (i := 0) rfl) sl29 ze5 nt29 (by decide) hb12) ?_
        rintro _ _ _ ⟨rfl, AN13, cN13, CN13, rfl, HN13, rfl⟩
        refine WL.rest 8 [0, 1, 2] (L' := [(0, .slice AN13 (y3 ++ ([IntKind.u8.wrap (shrK .i64 a1 (IntKind.i64.wrap (8 * (IntKind.i64.wrap (y4 - 1)))))] : List Int)).length cN13), (1, .int .i64 a1), (2, .int .i64 (IntKind.i64.wrap (y4 - 1)))]) (by kernel_rfl) ?_
        refine QP.blockN ?_
        refine QP.dropAt 0 ?_
        refine QP.pick [0, 1, 2] ?_
        exact QP.meet ⟨kn6, Nat.lt_succ_self _, (y3 ++ ([IntKind.u8.wrap (shrK .i64 a1 (IntKind.i64.wrap (8 * (IntKind.i64.wrap (y4 - 1)))))] : List Int)), (IntKind.i64.wrap (y4 - 1)), h, AN13, cN13, CN13, rfl, rfl, rfl, HN13⟩
      · replace hc := of_decide_eq_false hc
        rw [if_neg hc] at h
        have hc7 := hc
        clear hc
        refine WP.exit ?_
        refine QP.thenE ?_
        refine QP.thenE ?_
        refine QP.blockE ?_
        refine QP.pick [0] ?_
        exact QP.meet ⟨_, Option.some.inj h, Ay3, cy3, Cy3, rfl, rfl, rfl, Hy3⟩
  · rintro _ _ _ ⟨s1, rfl, As1, cs1, Cs1, rfl, rfl, rfl, Hs1⟩
    clear h
    replace h := hk2
    refine WP.seqP [6] (L' := [(6, .slice As1 s1.length cs1)]) (by kernel_rfl) ?_
    refine WP.ret ?_
    obtain rfl := Option.some.inj h
    exact QP.returned [6] [.slice As1 s1.length cs1] _ (by kernel_rfl) (by kernel_rfl) (by kernel_rfl) (fun W hI => ⟨_, _, _, rfl, ⟨As1, cs1, Cs1, rfl, Hs1, rfl, rfl⟩, hI⟩)

/-! ### grapevine/record.Lay: function 14 -/
def record_Lay (k : Nat) (a0 : T27) : Option ((List Int) × Int) := ((record_May a0).bind fun t2 => (if (!t2) = true then some (([] : List Int), 2) else ((record_put k ([] : List Int) a0.f0 1).bind fun t7 => ((record_put k t7 a0.f1 2).bind fun t11 => ((record_put k t11 a0.f2 6).bind fun t15 => ((record_put k t15 a0.f3 2).bind fun t19 => ((record_put k t19 (a0.f4.size : Int) 1).bind fun t23 => (if t23.length + (bytesOf a0.f4).length ≤ 1073741824 then some ((t23 ++ (bytesOf a0.f4)), 0) else none))))))))
set_option maxHeartbeats 4000000 in
theorem record_Lay_calls {B : World} {G : GMap} {Γ : List Chunk} {W : World} (HT : Tabs B G) (k : Nat) (a0 : T27) (r : (List Int) × Int) (h : record_Lay k a0 = some r) (hI : Inv B G (Γ) W) :
    Calls Tryd.prog 14 [.agg #[.int .i64 a0.f0, .int .i64 a0.f1, .int .i64 a0.f2, .int .i64 a0.f3, .string a0.f4]].toArray W (Ret B (fun v G' Γ' => ∃ (AR0 : Option Addr), ∃ (cR0 : Nat), ∃ (CR0 : Chunk), v = .tuple #[.slice AR0 r.1.length cR0, .int .i64 r.2] ∧ Ow (kInt .u8) G' AR0 cR0 r.1 CR0 ∧ G = G' ∧ CR0 :: Γ = Γ')) := by
  refine calls_WP (Γ := Γ) (G := G) (B := B) Tryd.func14 rfl (by kernel_rfl) ?_ hI
  clear hI
  unfold record_Lay at h
  refine WP.seqR ?_
  refine WL.op (op := .box 27 (.tmp 0)) (ty := 0) (d := some 1) (g := none) (by kernel_rfl) (by kernel_rfl) (by kernel_rfl) (Does.new (o := .cells #[.int .i64 a0.f0, .int .i64 a0.f1, .int .i64 a0.f2, .int .i64 a0.f3, .string a0.f4] 27 (0, 0)) (v := fun r => .pointer (some ⟨r, 0, none⟩)) (fun r => by kernel_rfl)) ?_
  rintro _ _ _ ⟨b1, rfl, rfl, rfl⟩
  refine WL.restQ 1 [1] (L' := [(1, .pointer (some ⟨b1, 0, none⟩))]) (by kernel_rfl) ?_
  refine WP.seq ?_
  refine WP.seqR ?_
  refine WL.tell (op := .load 27 (.tmp 1)) (ty := 27) (d := some 5) (g := none) (by kernel_rfl) (by kernel_rfl) (by kernel_rfl) (Tells.load_box (i := 0) (b := b1) (o := 0) (agg := true) (by rfl) ag27 (by kernel_rfl) (fun h => by cases h) (Nat.le_of_ble_eq_true rfl) (v := .agg #[.int .i64 a0.f0, .int .i64 a0.f1, .int .i64 a0.f2, .int .i64 a0.f3, .string a0.f4]) (by kernel_rfl)) ?_
  rw [Option.bind_eq_some_iff] at h
  obtain ⟨t2, ht3, h⟩ := h
  refine WL.op (op := .call { callee := (.value (.func 23)), args := #[(.tmp 5)], argTypes := #[27] }) (ty := 4) (d := some 6) (g := none) (by kernel_rfl) (by kernel_rfl) (by kernel_rfl) (Does.call (f := 23) (args := [.agg #[.int .i64 a0.f0, .int .i64 a0.f1, .int .i64 a0.f2, .int .i64 a0.f3, .string a0.f4]]) (by kernel_rfl) (fun W hI => (record_May_calls HT a0  t2 ht3 hI))) ?_
  rintro _ _ _ ⟨rfl, rfl, rfl⟩
  refine WL.restQ 2 [1, 7] (L' := [(1, .pointer (some ⟨b1, 0, none⟩)), (7, .bool (!t2))]) (by kernel_rfl) ?_
  refine WP.cond (b := (!t2)) (by kernel_rfl) (fun hc => ?_) (fun hc => ?_)
  · replace hc := hc
    rw [if_pos hc] at h
    have hc6 := hc
    clear hc
    refine WP.seqP [2, 3] (L' := [(2, .slice none 0 0), (3, .int .i64 2)]) (by kernel_rfl) ?_
    refine WP.dropAt 0 ?_
    refine WP.ret ?_
    refine QP.thenR ?_
    obtain rfl := Option.some.inj h
    refine QP.addNil ?_
    exact QP.returned [2, 3] [.slice none ([] : List Int).length 0, .int .i64 2] _ (by kernel_rfl) (by kernel_rfl) (by kernel_rfl) (fun W hI => ⟨_, _, _, rfl, ⟨none, 0, [], rfl, (Ow.nil (kInt .u8) _), rfl, rfl⟩, hI⟩)
  · replace hc := (Bool.eq_false_iff.1 hc)
    rw [if_neg hc] at h
    have hc6 := hc
    clear hc
    refine WP.skip ?_
    refine QP.next ?_
    refine WP.pick [1] ?_
    refine WP.seq ?_
    refine WP.any (N := 9) (S := [⟨some 8, [1], []⟩, ⟨some 9, [8], [0]⟩, ⟨some 10, [9], [1]⟩, ⟨some 11, [10], [2]⟩, ⟨some 12, [1], []⟩, ⟨some 13, [12], [4]⟩, ⟨some 14, [13], [5]⟩, ⟨some 15, [11, 14], [3, 6]⟩, ⟨some 4, [15], [0, 1, 2, 3, 4, 5, 6, 7]⟩]) (kw := 9) (G0 := G) (Γ0 := [[(b1, .cells #[.int .i64 a0.f0, .int .i64 a0.f1, .int .i64 a0.f2, .int .i64 a0.f3, .string a0.f4] 27 (0, 0))]]) mo (by kernel_rfl) (fun hS => ?_)
    refine WA.pure [0, 1, 4, 5] [1, 9, 13] (m := 5) (b' := 51) (L' := [(1, .pointer (some ⟨b1, 0, none⟩)), (9, .pointer (some ⟨b1, 0, none⟩)), (13, .pointer (some ⟨b1, 1, none⟩))]) (by kernel_rfl) (NoPanic.then (NoPanic.body)) (Under.mem (C := [(b1, .cells #[.int .i64 a0.f0, .int .i64 a0.f1, .int .i64 a0.f2, .int .i64 a0.f3, .string a0.f4] 27 (0, 0))]) (by repeat first | exact List.Mem.head _ | apply List.Mem.tail)) hS (by kernel_rfl) ?_
    refine WA.tellD [] (i := 2) (m := 4) (b' := 55) (by kernel_rfl) (NoPanic.then (NoPanic.body)) (Under.mem (C := [(b1, .cells #[.int .i64 a0.f0, .int .i64 a0.f1, .int .i64 a0.f2, .int .i64 a0.f3, .string a0.f4] 27 (0, 0))]) (by repeat first | exact List.Mem.head _ | apply List.Mem.tail)) hS (by kernel_rfl) (op := .load 3 (.tmp 9)) (ty := 3) (d := some 10) (g := none) (by kernel_rfl) (by kernel_rfl) (by kernel_rfl) (Tells.load_box (i := 0) (b := b1) (o := 0) (agg := false) (by rfl) ag3 (by kernel_rfl) (fun _ => rfl) (Nat.le_of_ble_eq_true rfl) (v := .int .i64 a0.f0) (by kernel_rfl)) ?_
    refine WA.tellD [] (i := 6) (m := 3) (b' := 119) (by kernel_rfl) (NoPanic.then (NoPanic.body)) (Under.mem (C := [(b1, .cells #[.int .i64 a0.f0, .int .i64 a0.f1, .int .i64 a0.f2, .int .i64 a0.f3, .string a0.f4] 27 (0, 0))]) (by repeat first | exact List.Mem.head _ | apply List.Mem.tail)) hS (by kernel_rfl) (op := .load 3 (.tmp 13)) (ty := 3) (d := some 14) (g := none) (by kernel_rfl) (by kernel_rfl) (by kernel_rfl) (Tells.load_box (i := 0) (b := b1) (o := 1) (agg := false) (by rfl) ag3 (by kernel_rfl) (fun _ => rfl) (Nat.le_of_ble_eq_true rfl) (v := .int .i64 a0.f1) (by kernel_rfl)) ?_
    refine WA.addNil ?_
    rw [Option.bind_eq_some_iff] at h
    obtain ⟨t7, ht8, h⟩ := h
    refine WA.op (i := 3) (m := 2) (b' := 127) (by kernel_rfl) hS (by kernel_rfl) (op := .call { callee := (.value (.func 52)), args := #[(.const (.slice none 0 0)), (.tmp 10), (.const (.int .i64 1))], argTypes := #[29, 3, 3] }) (ty := 29) (d := some 11) (g := none) (by kernel_rfl) (by kernel_rfl) (by kernel_rfl) (Does.call (f := 52) (args := [.slice none ([] : List Int).length 0, .int .i64 a0.f0, .int .i64 1]) (by kernel_rfl) (fun W hI => (record_put_calls k ([] : List Int) a0.f0 1 none 0 [] (Ow.nil (kInt .u8) G) t7 ht8 hI))) ?_
    rintro _ _ _ ⟨AR9, cR9, CR9, rfl, HR9, rfl, rfl⟩
    refine ⟨_, _, Under.refl, (Under.mem (C := [(b1, .cells #[.int .i64 a0.f0, .int .i64 a0.f1, .int .i64 a0.f2, .int .i64 a0.f3, .string a0.f4] 27 (0, 0))]) (by repeat first | exact List.Mem.head _ | apply List.Mem.tail)), ?_⟩
    rw [Option.bind_eq_some_iff] at h
    obtain ⟨t11, ht12, h⟩ := h
    refine WA.op (i := 7) (m := 1) (b' := 255) (by kernel_rfl) hS (by kernel_rfl) (op := .call { callee := (.value (.func 52)), args := #[(.tmp 11), (.tmp 14), (.const (.int .i64 2))], argTypes := #[29, 3, 3] }) (ty := 29) (d := some 15) (g := none) (by kernel_rfl) (by kernel_rfl) (by kernel_rfl) (Does.call (f := 52) (args := [.slice AR9 t7.length cR9, .int .i64 a0.f1, .int .i64 2]) (by kernel_rfl) (fun W hI => (record_put_calls k t7 a0.f1 2 AR9 cR9 CR9 HR9 t11 ht12 hI))) ?_
    rintro _ _ _ ⟨AR13, cR13, CR13, rfl, HR13, rfl, rfl⟩
    refine ⟨_, _, Under.refl, (Under.mem (C := [(b1, .cells #[.int .i64 a0.f0, .int .i64 a0.f1, .int .i64 a0.f2, .int .i64 a0.f3, .string a0.f4] 27 (0, 0))]) (by repeat first | exact List.Mem.head _ | apply List.Mem.tail)), ?_⟩
    refine WA.pure [8] [1, 4] (m := 0) (b' := 511) (L' := [(1, .pointer (some ⟨b1, 0, none⟩)), (4, .slice AR13 t11.length cR13)]) (by kernel_rfl) (NoPanic.then (NoPanic.body)) (Under.mem (C := [(b1, .cells #[.int .i64 a0.f0, .int .i64 a0.f1, .int .i64 a0.f2, .int .i64 a0.f3, .string a0.f4] 27 (0, 0))]) (by repeat first | exact List.Mem.head _ | apply List.Mem.tail)) hS (by kernel_rfl) ?_
    refine WA.done hS (by kernel_rfl) ?_
    refine QP.pick [1, 4] ?_
    refine QP.next ?_
    refine WP.seq ?_
    refine WP.any (N := 14) (S := [⟨some 16, [4], []⟩, ⟨some 17, [1], []⟩, ⟨some 18, [17], [1]⟩, ⟨some 19, [18], [2]⟩, ⟨some 20, [16, 19], [0, 3]⟩, ⟨some 21, [1], []⟩, ⟨some 22, [21], [5]⟩, ⟨some 23, [22], [6]⟩, ⟨some 24, [20, 23], [4, 7]⟩, ⟨some 25, [1], []⟩, ⟨some 26, [25], [9]⟩, ⟨some 27, [26], [10]⟩, ⟨some 28, [24, 27], [8, 11]⟩, ⟨some 4, [28], [0, 1, 2, 3, 4, 5, 6, 7, 8, 9, 10, 11, 12]⟩]) (kw := 14) (G0 := G) (Γ0 := [[(b1, .cells #[.int .i64 a0.f0, .int .i64 a0.f1, .int .i64 a0.f2, .int .i64 a0.f3, .string a0.f4] 27 (0, 0))]]) mo (by kernel_rfl) (fun hS => ?_)
    refine WA.pure [0, 1, 2, 5, 6, 9] [1, 4, 16, 18, 22, 25] (m := 8) (b' := 615) (L' := [(1, .pointer (some ⟨b1, 0, none⟩)), (4, .slice AR13 t11.length cR13), (16, .slice AR13 t11.length cR13), (18, .pointer (some ⟨b1, 2, none⟩)), (22, .pointer (some ⟨b1, 3, none⟩)), (25, .pointer (some ⟨b1, 4, none⟩))]) (by kernel_rfl) (NoPanic.then (NoPanic.body)) (Under.mem (C := [(b1, .cells #[.int .i64 a0.f0, .int .i64 a0.f1, .int .i64 a0.f2, .int .i64 a0.f3, .string a0.f4] 27 (0, 0))]) (by repeat first | exact List.Mem.head _ | apply List.Mem.tail)) hS (by kernel_rfl) ?_
    refine WA.tellD [] (i := 3) (m := 7) (b' := 623) (by kernel_rfl) (NoPanic.then (NoPanic.body)) (Under.mem (C := [(b1, .cells #[.int .i64 a0.f0, .int .i64 a0.f1, .int .i64 a0.f2, .int .i64 a0.f3, .string a0.f4] 27 (0, 0))]) (by repeat first | exact List.Mem.head _ | apply List.Mem.tail)) hS (by kernel_rfl) (op := .load 3 (.tmp 18)) (ty := 3) (d := some 19) (g := none) (by kernel_rfl) (by kernel_rfl) (by kernel_rfl) (Tells.load_box (i := 0) (b := b1) (o := 2) (agg := false) (by rfl) ag3 (by kernel_rfl) (fun _ => rfl) (Nat.le_of_ble_eq_true rfl) (v := .int .i64 a0.f2) (by kernel_rfl)) ?_
    refine WA.tellD [] (i := 7) (m := 6) (b' := 751) (by kernel_rfl) (NoPanic.then (NoPanic.body)) (Under.mem (C := [(b1, .cells #[.int .i64 a0.f0, .int .i64 a0.f1, .int .i64 a0.f2, .int .i64 a0.f3, .string a0.f4] 27 (0, 0))]) (by repeat first | exact List.Mem.head _ | apply List.Mem.tail)) hS (by kernel_rfl) (op := .load 3 (.tmp 22)) (ty := 3) (d := some 23) (g := none) (by kernel_rfl) (by kernel_rfl) (by kernel_rfl) (Tells.load_box (i := 0) (b := b1) (o := 3) (agg := false) (by rfl) ag3 (by kernel_rfl) (fun _ => rfl) (Nat.le_of_ble_eq_true rfl) (v := .int .i64 a0.f3) (by kernel_rfl)) ?_
    refine WA.tellD [] (i := 10) (m := 5) (b' := 1775) (by kernel_rfl) (NoPanic.then (NoPanic.body)) (Under.mem (C := [(b1, .cells #[.int .i64 a0.f0, .int .i64 a0.f1, .int .i64 a0.f2, .int .i64 a0.f3, .string a0.f4] 27 (0, 0))]) (by repeat first | exact List.Mem.head _ | apply List.Mem.tail)) hS (by kernel_rfl) (op := .load 9 (.tmp 25)) (ty := 9) (d := some 26) (g := none) (by kernel_rfl) (by kernel_rfl) (by kernel_rfl) (Tells.load_box (i := 0) (b := b1) (o := 4) (agg := false) (by rfl) ag9 (by kernel_rfl) (fun _ => rfl) (Nat.le_of_ble_eq_true rfl) (v := .string a0.f4) (by kernel_rfl)) ?_
    refine WA.pure [11] [1, 4, 16, 19, 23, 27] (m := 4) (b' := 3823) (L' := [(1, .pointer (some ⟨b1, 0, none⟩)), (4, .slice AR13 t11.length cR13), (16, .slice AR13 t11.length cR13), (19, .int .i64 a0.f2), (23, .int .i64 a0.f3), (27, .int .i64 (a0.f4.size : Int))]) (by kernel_rfl) (NoPanic.then (NoPanic.body)) (Under.mem (C := [(b1, .cells #[.int .i64 a0.f0, .int .i64 a0.f1, .int .i64 a0.f2, .int .i64 a0.f3, .string a0.f4] 27 (0, 0))]) (by repeat first | exact List.Mem.head _ | apply List.Mem.tail)) hS (by kernel_rfl) ?_
    rw [Option.bind_eq_some_iff] at h
    obtain ⟨t15, ht16, h⟩ := h
    refine WA.op (i := 4) (m := 3) (b' := 3839) (by kernel_rfl) hS (by kernel_rfl) (op := .call { callee := (.value (.func 52)), args := #[(.tmp 16), (.tmp 19), (.const (.int .i64 6))], argTypes := #[29, 3, 3] }) (ty := 29) (d := some 20) (g := none) (by kernel_rfl) (by kernel_rfl) (by kernel_rfl) (Does.call (f := 52) (args := [.slice AR13 t11.length cR13, .int .i64 a0.f2, .int .i64 6]) (by kernel_rfl) (fun W hI => (record_put_calls k t11 a0.f2 6 AR13 cR13 CR13 HR13 t15 ht16 hI))) ?_
    rintro _ _ _ ⟨AR17, cR17, CR17, rfl, HR17, rfl, rfl⟩
    refine ⟨_, _, Under.refl, (Under.mem (C := [(b1, .cells #[.int .i64 a0.f0, .int .i64 a0.f1, .int .i64 a0.f2, .int .i64 a0.f3, .string a0.f4] 27 (0, 0))]) (by repeat first | exact List.Mem.head _ | apply List.Mem.tail)), ?_⟩
    rw [Option.bind_eq_some_iff] at h
    obtain ⟨t19, ht20, h⟩ := h
    refine WA.op (i := 8) (m := 2) (b' := 4095) (by kernel_rfl) hS (by kernel_rfl) (op := .call { callee := (.value (.func 52)), args := #[(.tmp 20), (.tmp 23), (.const (.int .i64 2))], argTypes := #[29, 3, 3] }) (ty := 29) (d := some 24) (g := none) (by kernel_rfl) (by kernel_rfl) (by kernel_rfl) (Does.call (f := 52) (args := [.slice AR17 t15.length cR17, .int .i64 a0.f3, .int .i64 2]) (by kernel_rfl) (fun W hI => (record_put_calls k t15 a0.f3 2 AR17 cR17 CR17 HR17 t19 ht20 hI))) ?_
    rintro _ _ _ ⟨AR21, cR21, CR21, rfl, HR21, rfl, rfl⟩
    refine ⟨_, _, Under.refl, (Under.mem (C := [(b1, .cells #[.int .i64 a0.f0, .int .i64 a0.f1, .int .i64 a0.f2, .int .i64 a0.f3, .string a0.f4] 27 (0, 0))]) (by repeat first | exact List.Mem.head _ | apply List.Mem.tail)), ?_⟩
    rw [Option.bind_eq_some_iff] at h
    obtain ⟨t23, ht24, h⟩ := h
    refine WA.op (i := 12) (m := 1) (b' := 8191) (by kernel_rfl) hS (by kernel_rfl) (op := .call { callee := (.value (.func 52)), args := #[(.tmp 24), (.tmp 27), (.const (.int .i64 1))], argTypes := #[29, 3, 3] }) (ty := 29) (d := some 28) (g := none) (by kernel_rfl) (by kernel_rfl) (by kernel_rfl) (Does.call (f := 52) (args := [.slice AR21 t19.length cR21, .int .i64 (a0.f4.size : Int), .int .i64 1]) (by kernel_rfl) (fun W hI => (record_put_calls k t19 (a0.f4.size : Int) 1 AR21 cR21 CR21 HR21 t23 ht24 hI))) ?_
    rintro _ _ _ ⟨AR25, cR25, CR25, rfl, HR25, rfl, rfl⟩
    refine ⟨_, _, Under.refl, (Under.mem (C := [(b1, .cells #[.int .i64 a0.f0, .int .i64 a0.f1, .int .i64 a0.f2, .int .i64 a0.f3, .string a0.f4] 27 (0, 0))]) (by repeat first | exact List.Mem.head _ | apply List.Mem.tail)), ?_⟩
    refine WA.pure [13] [1, 4] (m := 0) (b' := 16383) (L' := [(1, .pointer (some ⟨b1, 0, none⟩)), (4, .slice AR25 t23.length cR25)]) (by kernel_rfl) (NoPanic.then (NoPanic.body)) (Under.mem (C := [(b1, .cells #[.int .i64 a0.f0, .int .i64 a0.f1, .int .i64 a0.f2, .int .i64 a0.f3, .string a0.f4] 27 (0, 0))]) (by repeat first | exact List.Mem.head _ | apply List.Mem.tail)) hS (by kernel_rfl) ?_
    refine WA.done hS (by kernel_rfl) ?_
    refine QP.pick [1, 4] ?_
    refine QP.next ?_
    refine WP.seqR ?_
    refine WL.pure 0 2 [29, 30] (L' := [(29, .slice AR25 t23.length cR25), (30, .pointer (some ⟨b1, 4, none⟩))]) (by kernel_rfl) (by decide) ?_
    refine WL.tell (op := .load 9 (.tmp 30)) (ty := 9) (d := some 31) (g := none) (by kernel_rfl) (by kernel_rfl) (by kernel_rfl) (Tells.load_box (i := 1) (b := b1) (o := 4) (agg := false) (by rfl) ag9 (by kernel_rfl) (fun _ => rfl) (Nat.le_of_ble_eq_true rfl) (v := .string a0.f4) (by kernel_rfl)) ?_
    by_cases hb27 : t23.length + (bytesOf a0.f4).length ≤ 1073741824
    case neg => rw [if_neg hb27] at h; cases h
    rw [if_pos hb27] at h
    refine WL.op (op := .call { callee := (.builtin .append), args := #[(.tmp 29), (.tmp 31)], argTypes := #[29, 9] }) (ty := 29) (d := some 32) (g := none) (by kernel_rfl) (by kernel_rfl) (by kernel_rfl) (Ow.append (ys := (bytesOf a0.f4)) (v := .string a0.f4) HR25 (i := 0) rfl (by kernel_rfl) (by kernel_rfl) (Src.str a0.f4) sl29 ze5 nt9 (by decide) hb27) ?_
    rintro _ _ _ ⟨rfl, AN28, cN28, CN28, rfl, HN28, rfl⟩
    refine WL.restQ 4 [2, 3] (L' := [(2, .slice AN28 (t23 ++ (bytesOf a0.f4)).length cN28), (3, .int .i64 0)]) (by kernel_rfl) ?_
    refine WP.dropAt 1 ?_
    refine WP.ret ?_
    obtain rfl := Option.some.inj h
    exact QP.returned [2, 3] [.slice AN28 (t23 ++ (bytesOf a0.f4)).length cN28, .int .i64 0] _ (by kernel_rfl) (by kernel_rfl) (by kernel_rfl) (fun W hI => ⟨_, _, _, rfl, ⟨AN28, cN28, CN28, rfl, HN28, rfl, rfl⟩, hI⟩)

/-! ### grapevine/record.number: function 54 -/
def record_number_l0 (l0 : List Int) : Nat → Int → Int → Option Int
  | 0, _, _ => none
  | k + 1, y3, y4 => (if y4 < (l0.length : Int) then (if 0 ≤ y4 ∧ y4 < (l0.length : Int) then record_number_l0 l0 k (IntKind.i64.wrap ((IntKind.i64.wrap (256 * y3)) + (IntKind.i64.wrap (l0.getD y4.toNat 0)))) (IntKind.i64.wrap (y4 + 1)) else none) else some y3)
def record_number (k : Nat) (l0 : List Int) : Option Int := ((record_number_l0 l0 k 0 0).bind fun s1 => some s1)
set_option maxHeartbeats 4000000 in
theorem record_number_calls {B : World} {G : GMap} {Γ : List Chunk} {W : World} (k : Nat) (l0 : List Int) (Al0 : Option Addr) (cl0 : Nat) (Hl0 : Rd (kInt .u8) G Al0 cl0 l0) (r : Int) (h : record_number k l0 = some r) (hI : Inv B G (Γ) W) :
    Calls Tryd.prog 54 [.slice Al0 l0.length cl0].toArray W (Ret B (fun v G' Γ' => v = .int .i64 r ∧ G = G' ∧ Γ = Γ')) := by
  refine calls_WP (Γ := Γ) (G := G) (B := B) Tryd.func54 rfl (by kernel_rfl) ?_ hI
  clear hI
  unfold record_number at h
  refine WP.seqP [0] (L' := [(0, .slice Al0 l0.length cl0)]) (by kernel_rfl) ?_
  refine WP.seqP [0, 3] (L' := [(0, .slice Al0 l0.length cl0), (3, .int .i64 0)]) (by kernel_rfl) ?_
  refine WP.seq ?_
  refine WP.seqP [3, 6, 7, 8] (L' := [(3, .int .i64 0), (6, .slice Al0 l0.length cl0), (7, .int .i64 (l0.length : Int)), (8, .int .i64 0)]) (by kernel_rfl) ?_
  rw [Option.bind_eq_some_iff] at h
  obtain ⟨os1, h, hk2⟩ := h
  refine WP.cutQ (fun L' G' Γ' => ∃ s1 : Int, s1 = os1 ∧ L' = [(3, .int .i64 s1)] ∧ G = G' ∧ Γ = Γ') ?_ ?_
  · clear hk2
    refine WP.block ?_
    refine WP.pick [3, 6, 7, 8] ?_
    refine WP.loopF (fun kn5 L' G' Γ' => ∃ (y3 : Int), ∃ (y4 : Int), record_number_l0 l0 kn5 y3 y4 = some os1 ∧ L' = [(3, .int .i64 y3), (6, .slice Al0 l0.length cl0), (7, .int .i64 (l0.length : Int)), (8, .int .i64 y4)] ∧ G = G' ∧ Γ = Γ') ?_ k ⟨0, 0, h, rfl, rfl, rfl⟩
    clear h
    rintro kn6 _ _ _ ⟨y3, y4, h, rfl, rfl, rfl⟩
    cases kn6 with
    | zero => exact absurd h (by simp [record_number_l0])
    | succ kn6 =>
      simp only [record_number_l0] at h
      refine WP.seqP [3, 6, 7, 8, 9] (L' := [(3, .int .i64 y3), (6, .slice Al0 l0.length cl0), (7, .int .i64 (l0.length : Int)), (8, .int .i64 y4), (9, .bool (decide (y4 < (l0.length : Int))))]) (by kernel_rfl) ?_
      refine WP.seq ?_
      refine WP.cond (b := decide (y4 < (l0.length : Int))) (by kernel_rfl) (fun hc => ?_) (fun hc => ?_)
      · replace hc := of_decide_eq_true hc
        rw [if_pos hc] at h
        have hc7 := hc
        clear hc
        refine WP.skip ?_
        refine QP.next ?_
        refine WP.pick [3, 6, 7, 8] ?_
        refine WP.seq ?_
        refine WP.block ?_
        refine WP.seqR ?_
        by_cases hb8 : 0 ≤ y4 ∧ y4 < (l0.length : Int)
        case neg => rw [if_neg hb8] at h; cases h
        rw [if_pos hb8] at h
        refine WL.tell (op := .indexAddr 29 (.tmp 6) (.tmp 8)) (ty := 0) (d := some 10) (g := none) (by kernel_rfl) (by kernel_rfl) (by kernel_rfl) (Tells.indexAddr (A := Al0) (n := l0.length) (c := cl0) (k := .i64) (j := y4) (by kernel_rfl) (by kernel_rfl) (Hl0.isSome hb8.1 hb8.2) hb8.1 hb8.2 sl29) ?_
        refine WL.tellE (op := .load 5 (.tmp 10)) (ty := 5) (d := some 11) (g := none) (by kernel_rfl) (by kernel_rfl) (by kernel_rfl) (Hl0.load (agg := false) hb8.1 hb8.2 0 ag5 (fun _ => rfl) (by kernel_rfl)) ?_
        rintro _ rfl
        refine WL.restQ 2 [3, 5, 6, 7, 8] (L' := [(3, .int .i64 y3), (5, .int .u8 (l0.getD y4.toNat 0)), (6, .slice Al0 l0.length cl0), (7, .int .i64 (l0.length : Int)), (8, .int .i64 y4)]) (by kernel_rfl) ?_
        refine WP.regionP [3, 6, 7, 8] (L' := [(3, .int .i64 (IntKind.i64.wrap ((IntKind.i64.wrap (256 * y3)) + (IntKind.i64.wrap (l0.getD y4.toNat 0))))), (6, .slice Al0 l0.length cl0), (7, .int .i64 (l0.length : Int)), (8, .int .i64 y4)]) (by kernel_rfl) ?_
        refine QP.blockN ?_
        refine QP.next ?_
        refine WP.pick [3, 6, 7, 8] ?_
        refine WP.regionP [3, 6, 7, 8] (L' := [(3, .int .i64 (IntKind.i64.wrap ((IntKind.i64.wrap (256 * y3)) + (IntKind.i64.wrap (l0.getD y4.toNat 0))))), (6, .slice Al0 l0.length cl0), (7, .int .i64 (l0.length : Int)), (8, .int .i64 (IntKind.i64.wrap (y4 + 1)))]) (by kernel_rfl) ?_
        refine QP.pick [3, 6, 7, 8] ?_
        exact QP.meet ⟨kn6, Nat.lt_succ_self _, (IntKind.i64.wrap ((IntKind.i64.wrap (256 * y3)) + (IntKind.i64.wrap (l0.getD y4.toNat 0)))), (IntKind.i64.wrap (y4 + 1)), h, rfl, rfl, rfl⟩
      · replace hc := of_decide_eq_false hc
        rw [if_neg hc] at h
        have hc7 := hc
        clear hc
        refine WP.exit ?_
        refine QP.thenE ?_
        refine QP.thenE ?_
        refine QP.blockE ?_
        refine QP.pick [3] ?_
        exact QP.meet ⟨_, Option.some.inj h, rfl, rfl, rfl⟩
  · rintro _ _ _ ⟨s1, rfl, rfl, rfl, rfl⟩
    clear h
    replace h := hk2
    refine QP.next ?_
    refine WP.pick [3] ?_
    refine WP.seqP [2] (L' := [(2, .int .i64 s1)]) (by kernel_rfl) ?_
    refine WP.ret ?_
    obtain rfl := Option.some.inj h
    exact QP.returned [2] [.int .i64 s1] _ (by kernel_rfl) (by kernel_rfl) (by kernel_rfl) (fun W hI => ⟨_, _, _, rfl, ⟨rfl, rfl, rfl⟩, hI⟩)

/-! ### grapevine/record.Read: function 20 -/
def record_Read (k : Nat) (l0 : List Int) (a1 : Int) : Option (T27 × Int × Bool) := ((if a1 < 0 then some true else (if a1 > (l0.length : Int) then some true else some (decide ((IntKind.i64.wrap ((l0.length : Int) - a1)) < 12)))).bind fun s2 => (if s2 = true then some ((⟨0, 0, 0, 0, (⟨#[]⟩ : ByteArray)⟩ : T27), 0, false) else (if 0 ≤ a1 ∧ a1 ≤ (l0.length : Int) ∧ (l0.length : Int) ≤ (l0.length : Int) then ((some ((l0.take (l0.length : Int).toNat).drop a1.toNat)).bind fun v9 => (if 0 ≤ (11 : Int) ∧ (11 : Int) < (v9.length : Int) then ((some (IntKind.i64.wrap (v9.getD (11 : Int).toNat 0))).bind fun v13 => (if (IntKind.i64.wrap ((v9.length : Int) - 12)) < v13 then some ((⟨0, 0, 0, 0, (⟨#[]⟩ : ByteArray)⟩ : T27), 0, false) else (if 0 ≤ (0 : Int) ∧ (0 : Int) < (v9.length : Int) then (if 0 ≤ (1 : Int) ∧ (1 : Int) ≤ (3 : Int) ∧ (3 : Int) ≤ (v9.length : Int) then (if 0 ≤ (3 : Int) ∧ (3 : Int) ≤ (9 : Int) ∧ (9 : Int) ≤ (v9.length : Int) then (if 0 ≤ (9 : Int) ∧ (9 : Int) ≤ (11 : Int) ∧ (11 : Int) ≤ (v9.length : Int) then ((record_number k ((v9.take (3 : Int).toNat).drop (1 : Int).toNat)).bind fun t24 => ((record_number k ((v9.take (9 : Int).toNat).drop (3 : Int).toNat)).bind fun t28 => ((record_number k ((v9.take (11 : Int).toNat).drop (9 : Int).toNat)).bind fun t32 => (if 0 ≤ (12 : Int) ∧ (12 : Int) ≤ (IntKind.i64.wrap (12 + v13)) ∧ (IntKind.i64.wrap (12 + v13)) ≤ (v9.length : Int) then ((record_May (⟨IntKind.i64.wrap (v9.getD (0 : Int).toNat 0), t24, t28, t32, (strOfNums ((v9.take (IntKind.i64.wrap (12 + v13)).toNat).drop (12 : Int).toNat))⟩ : T27)).bind fun t38 => (if (!t38) = true then some ((⟨0, 0, 0, 0, (⟨#[]⟩ : ByteArray)⟩ : T27), 0, false) else some ((⟨IntKind.i64.wrap (v9.getD (0 : Int).toNat 0), t24, t28, t32, (strOfNums ((v9.take (IntKind.i64.wrap (12 + v13)).toNat).drop (12 : Int).toNat))⟩ : T27), IntKind.i64.wrap ((IntKind.i64.wrap (a1 + 12)) + v13), true))) else none)))) else none) else none) else none) else none))) else none)) else none)))
set_option maxHeartbeats 4000000 in
theorem record_Read_calls {B : World} {G : GMap} {Γ : List Chunk} {W : World} (HT : Tabs B G) (k : Nat) (l0 : List Int) (a1 : Int) (Al0 : Option Addr) (cl0 : Nat) (Hl0 : Rd (kInt .u8) G Al0 cl0 l0) (r : T27 × Int × Bool) (h : record_Read k l0 a1 = some r) (hI : Inv B G (Γ) W) :
    Calls Tryd.prog 20 [.slice Al0 l0.length cl0, .int .i64 a1].toArray W (Ret B (fun v G' Γ' => v = .tuple #[.agg #[.int .i64 r.1.f0, .int .i64 r.1.f1, .int .i64 r.1.f2, .int .i64 r.1.f3, .string r.1.f4], .int .i64 r.2.1, .bool r.2.2] ∧ G = G' ∧ Γ = Γ')) := by
  refine calls_WP (Γ := Γ) (G := G) (B := B) Tryd.func20 rfl (by kernel_rfl) ?_ hI
  clear hI
  unfold record_Read at h
  refine WP.seqR ?_
  refine WL.op (op := .alloc 27) (ty := 0) (d := some 4) (g := none) (by kernel_rfl) (by kernel_rfl) (by kernel_rfl) (Does.new (o := .cells #[.int .i64 0, .int .i64 0, .int .i64 0, .int .i64 0, .string (⟨#[]⟩ : ByteArray)] 27 (0, 0)) (v := fun r => .pointer (some ⟨r, 0, none⟩)) (fun r => by kernel_rfl)) ?_
  rintro _ _ _ ⟨b1, rfl, rfl, rfl⟩
  refine WL.restQ 1 [0, 1, 4] (L' := [(0, .slice Al0 l0.length cl0), (1, .int .i64 a1), (4, .pointer (some ⟨b1, 0, none⟩))]) (by kernel_rfl) ?_
  refine WP.seq ?_
  rw [Option.bind_eq_some_iff] at h
  obtain ⟨os2, h, hk3⟩ := h
  refine WP.cut (fun L' G' Γ' => ∃ s2 : Bool, s2 = os2 ∧ L' = [(0, .slice Al0 l0.length cl0), (1, .int .i64 a1), (4, .pointer (some ⟨b1, 0, none⟩)), (24, .bool s2)] ∧ G = G' ∧ [(b1, .cells #[.int .i64 0, .int .i64 0, .int .i64 0, .int .i64 0, .string (⟨#[]⟩ : ByteArray)] 27 (0, 0))] :: Γ = Γ') ?_ ?_
  · clear hk3
    refine WP.region ?_
    refine WL.pure 0 3 [0, 1, 4, 12] (L' := [(0, .slice Al0 l0.length cl0), (1, .int .i64 a1), (4, .pointer (some ⟨b1, 0, none⟩)), (12, .bool (decide (a1 < 0)))]) (by kernel_rfl) (by decide) ?_
    refine WL.split 12 (b := decide (a1 < 0)) (by kernel_rfl) (fun hc => ?_) (fun hc => ?_)
    · replace hc := of_decide_eq_true hc
      rw [if_pos hc] at h
      have hc4 := hc
      clear hc
      refine WL.rest 3 [0, 1, 4, 24] (L' := [(0, .slice Al0 l0.length cl0), (1, .int .i64 a1), (4, .pointer (some ⟨b1, 0, none⟩)), (24, .bool true)]) (by kernel_rfl) ?_
      refine QP.pick [0, 1, 4, 24] ?_
      exact QP.meet ⟨_, Option.some.inj h, rfl, rfl, rfl⟩
    · replace hc := of_decide_eq_false hc
      rw [if_neg hc] at h
      have hc4 := hc
      clear hc
      refine WL.pure 3 9 [0, 1, 4, 18] (L' := [(0, .slice Al0 l0.length cl0), (1, .int .i64 a1), (4, .pointer (some ⟨b1, 0, none⟩)), (18, .bool (decide (a1 > (l0.length : Int))))]) (by kernel_rfl) (by decide) ?_
      refine WL.split 18 (b := decide (a1 > (l0.length : Int))) (by kernel_rfl) (fun hc => ?_) (fun hc => ?_)
      · replace hc := of_decide_eq_true hc
        rw [if_pos hc] at h
        have hc5 := hc
        clear hc
        refine WL.rest 9 [0, 1, 4, 24] (L' := [(0, .slice Al0 l0.length cl0), (1, .int .i64 a1), (4, .pointer (some ⟨b1, 0, none⟩)), (24, .bool true)]) (by kernel_rfl) ?_
        refine QP.pick [0, 1, 4, 24] ?_
        exact QP.meet ⟨_, Option.some.inj h, rfl, rfl, rfl⟩
      · replace hc := of_decide_eq_false hc
        rw [if_neg hc] at h
        have hc5 := hc
        clear hc
        refine WL.rest 9 [0, 1, 4, 24] (L' := [(0, .slice Al0 l0.length cl0), (1, .int .i64 a1), (4, .pointer (some ⟨b1, 0, none⟩)), (24, .bool (decide ((IntKind.i64.wrap ((l0.length : Int) - a1)) < 12)))]) (by kernel_rfl) ?_
        refine QP.pick [0, 1, 4, 24] ?_
        exact QP.meet ⟨_, Option.some.inj h, rfl, rfl, rfl⟩
  · rintro _ _ _ ⟨s2, rfl, rfl, rfl, rfl⟩
    clear h
    replace h := hk3
    refine WP.cond (b := s2) (by kernel_rfl) (fun hc => ?_) (fun hc => ?_)
    · replace hc := hc
      rw [if_pos hc] at h
      have hc6 := hc
      clear hc
      refine WP.seqR ?_
      refine WL.pure 0 1 [4, 25] (L' := [(4, .pointer (some ⟨b1, 0, none⟩)), (25, .agg #[.int .i64 0, .int .i64 0, .int .i64 0, .int .i64 0, .string (⟨#[]⟩ : ByteArray)])]) (by kernel_rfl) (by decide) ?_
      refine WL.op (op := .store 27 (.tmp 4) (.tmp 25)) (ty := 0) (d := none) (g := none) (by kernel_rfl) (by kernel_rfl) (by kernel_rfl) (Does.store_box (i := 0) (b := b1) (o := 0) (v := .agg #[.int .i64 0, .int .i64 0, .int .i64 0, .int .i64 0, .string (⟨#[]⟩ : ByteArray)]) (by rfl) sz27 (by kernel_rfl) (by kernel_rfl) (by kernel_rfl) (Free.zero _) (Nat.le_of_ble_eq_true rfl) (cells' := #[.int .i64 0, .int .i64 0, .int .i64 0, .int .i64 0, .string (⟨#[]⟩ : ByteArray)]) (by kernel_rfl)) ?_
      rintro _ _ _ ⟨rfl, rfl, rfl⟩
      refine WL.restQ 2 [4, 5, 6] (L' := [(4, .pointer (some ⟨b1, 0, none⟩)), (5, .int .i64 0), (6, .bool false)]) (by kernel_rfl) ?_
      refine WP.ret ?_
      refine QP.thenR ?_
      obtain rfl := Option.some.inj h
      exact QP.returnedM (rs := [.cell 4 27, .tmp 5, .tmp 6]) (by kernel_rfl) (ResAll.cons (Res1.box (p := 4) (i := 0) (o := 0) (agg := true) (by rfl) ag27 (by kernel_rfl) (fun h => by cases h) (Nat.le_of_ble_eq_true rfl) (v := .agg #[.int .i64 0, .int .i64 0, .int .i64 0, .int .i64 0, .string (⟨#[]⟩ : ByteArray)]) (by kernel_rfl)) (ResAll.cons (Res1.tmp (t := 5) (v := .int .i64 0) (by kernel_rfl)) (ResAll.cons (Res1.tmp (t := 6) (v := .bool false) (by kernel_rfl)) ResAll.nil))) (by kernel_rfl) (fun W hI => ⟨_, _, _, rfl, ⟨rfl, rfl, rfl⟩, (hI.less 0 rfl)⟩)
    · replace hc := (Bool.eq_false_iff.1 hc)
      rw [if_neg hc] at h
      have hc6 := hc
      clear hc
      refine WP.skip ?_
      refine QP.next ?_
      refine WP.pick [0, 1, 4] ?_
      refine WP.seqR ?_
      refine WL.pure 0 2 [1, 4, 26, 27] (L' := [(1, .int .i64 a1), (4, .pointer (some ⟨b1, 0, none⟩)), (26, .slice Al0 l0.length cl0), (27, .int .i64 a1)]) (by kernel_rfl) (by decide) ?_
      by_cases hb7 : 0 ≤ a1 ∧ a1 ≤ (l0.length : Int) ∧ (l0.length : Int) ≤ (l0.length : Int)
      case neg => rw [if_neg hb7] at h; cases h
      rw [if_pos hb7] at h
      refine WL.tellS (op := .slice 29 (.tmp 26) (some (.tmp 27)) none none) (ty := 29) (d := some 28) (g := none) (by kernel_rfl) (by kernel_rfl) (by kernel_rfl) (Hl0.slice (l := a1) (h := (l0.length : Int)) (by kernel_rfl) ⟨.i64, by kernel_rfl⟩ rfl hb7.1 hb7.2.1 hb7.2.2 sl29) ?_
      rintro AP8 cP8 HP8
      refine WL.restQ 3 [1, 4, 7] (L' := [(1, .int .i64 a1), (4, .pointer (some ⟨b1, 0, none⟩)), (7, .slice AP8 ((l0.take (l0.length : Int).toNat).drop a1.toNat).length cP8)]) (by kernel_rfl) ?_
      obtain ⟨v9, hv10, h⟩ := Option.bind_eq_some_iff.1 h
      replace hv10 := Option.some.inj hv10
      have Hn11 := HP8
      rw [hv10] at Hn11
      refine WP.reput 7 (v := .slice AP8 ((l0.take (l0.length : Int).toNat).drop a1.toNat).length cP8) (v' := .slice AP8 v9.length cP8) (by kernel_rfl) (by subst hv10; rfl) ?_
      refine WP.pick [1, 4, 7] ?_
      refine WP.seqR ?_
      refine WL.pure 0 1 [1, 4, 7, 29] (L' := [(1, .int .i64 a1), (4, .pointer (some ⟨b1, 0, none⟩)), (7, .slice AP8 v9.length cP8), (29, .slice AP8 v9.length cP8)]) (by kernel_rfl) (by decide) ?_
      by_cases hb12 : 0 ≤ (11 : Int) ∧ (11 : Int) < (v9.length : Int)
      case neg => rw [if_neg hb12] at h; cases h
      rw [if_pos hb12] at h
      refine WL.tell (op := .indexAddr 29 (.tmp 29) (.const (.int .i64 11))) (ty := 0) (d := some 30) (g := none) (by kernel_rfl) (by kernel_rfl) (by kernel_rfl) (Tells.indexAddr (A := AP8) (n := v9.length) (c := cP8) (k := .i64) (j := 11) (by kernel_rfl) (by kernel_rfl) (Hn11.isSome hb12.1 hb12.2) hb12.1 hb12.2 sl29) ?_
      refine WL.tellE (op := .load 5 (.tmp 30)) (ty := 5) (d := some 31) (g := none) (by kernel_rfl) (by kernel_rfl) (by kernel_rfl) (Hn11.load (agg := false) hb12.1 hb12.2 0 ag5 (fun _ => rfl) (by kernel_rfl)) ?_
      rintro _ rfl
      refine WL.restQ 3 [1, 4, 7, 8] (L' := [(1, .int .i64 a1), (4, .pointer (some ⟨b1, 0, none⟩)), (7, .slice AP8 v9.length cP8), (8, .int .i64 (IntKind.i64.wrap (v9.getD (11 : Int).toNat 0)))]) (by kernel_rfl) ?_
      obtain ⟨v13, hv14, h⟩ := Option.bind_eq_some_iff.1 h
      replace hv14 := Option.some.inj hv14
      refine WP.reput 8 (v := .int .i64 (IntKind.i64.wrap (v9.getD (11 : Int).toNat 0))) (v' := .int .i64 v13) (by kernel_rfl) (by subst hv14; rfl) ?_
      refine WP.pick [1, 4, 7, 8] ?_
      refine WP.seq ?_
      refine WP.seqP [1, 4, 7, 8, 37] (L' := [(1, .int .i64 a1), (4, .pointer (some ⟨b1, 0, none⟩)), (7, .slice AP8 v9.length cP8), (8, .int .i64 v13), (37, .bool (decide ((IntKind.i64.wrap ((v9.length : Int) - 12)) < v13)))]) (by kernel_rfl) ?_
      refine WP.cond (b := decide ((IntKind.i64.wrap ((v9.length : Int) - 12)) < v13)) (by kernel_rfl) (fun hc => ?_) (fun hc => ?_)
      · replace hc := of_decide_eq_true hc
        rw [if_pos hc] at h
        have hc15 := hc
        clear hc
        refine WP.seqR ?_
        refine WL.pure 0 1 [4, 38] (L' := [(4, .pointer (some ⟨b1, 0, none⟩)), (38, .agg #[.int .i64 0, .int .i64 0, .int .i64 0, .int .i64 0, .string (⟨#[]⟩ : ByteArray)])]) (by kernel_rfl) (by decide) ?_
        refine WL.op (op := .store 27 (.tmp 4) (.tmp 38)) (ty := 0) (d := none) (g := none) (by kernel_rfl) (by kernel_rfl) (by kernel_rfl) (Does.store_box (i := 0) (b := b1) (o := 0) (v := .agg #[.int .i64 0, .int .i64 0, .int .i64 0, .int .i64 0, .string (⟨#[]⟩ : ByteArray)]) (by rfl) sz27 (by kernel_rfl) (by kernel_rfl) (by kernel_rfl) (Free.zero _) (Nat.le_of_ble_eq_true rfl) (cells' := #[.int .i64 0, .int .i64 0, .int .i64 0, .int .i64 0, .string (⟨#[]⟩ : ByteArray)]) (by kernel_rfl)) ?_
        rintro _ _ _ ⟨rfl, rfl, rfl⟩
        refine WL.restQ 2 [4, 5, 6] (L' := [(4, .pointer (some ⟨b1, 0, none⟩)), (5, .int .i64 0), (6, .bool false)]) (by kernel_rfl) ?_
        refine WP.ret ?_
        refine QP.thenR ?_
        obtain rfl := Option.some.inj h
        exact QP.returnedM (rs := [.cell 4 27, .tmp 5, .tmp 6]) (by kernel_rfl) (ResAll.cons (Res1.box (p := 4) (i := 0) (o := 0) (agg := true) (by rfl) ag27 (by kernel_rfl) (fun h => by cases h) (Nat.le_of_ble_eq_true rfl) (v := .agg #[.int .i64 0, .int .i64 0, .int .i64 0, .int .i64 0, .string (⟨#[]⟩ : ByteArray)]) (by kernel_rfl)) (ResAll.cons (Res1.tmp (t := 5) (v := .int .i64 0) (by kernel_rfl)) (ResAll.cons (Res1.tmp (t := 6) (v := .bool false) (by kernel_rfl)) ResAll.nil))) (by kernel_rfl) (fun W hI => ⟨_, _, _, rfl, ⟨rfl, rfl, rfl⟩, (hI.less 0 rfl)⟩)
      · replace hc := of_decide_eq_false hc
        rw [if_neg hc] at h
        have hc15 := hc
        clear hc
        refine WP.skip ?_
        refine QP.next ?_
        refine WP.pick [1, 4, 7, 8] ?_
        refine WP.seqR ?_
        refine WL.op (op := .alloc 27) (ty := 0) (d := some 9) (g := none) (by kernel_rfl) (by kernel_rfl) (by kernel_rfl) (Does.new (o := .cells #[.int .i64 0, .int .i64 0, .int .i64 0, .int .i64 0, .string (⟨#[]⟩ : ByteArray)] 27 (0, 0)) (v := fun r => .pointer (some ⟨r, 0, none⟩)) (fun r => by kernel_rfl)) ?_
        rintro _ _ _ ⟨b16, rfl, rfl, rfl⟩
        refine WL.restQ 1 [1, 4, 7, 8, 9] (L' := [(1, .int .i64 a1), (4, .pointer (some ⟨b1, 0, none⟩)), (7, .slice AP8 v9.length cP8), (8, .int .i64 v13), (9, .pointer (some ⟨b16, 0, none⟩))]) (by kernel_rfl) ?_
        refine WP.seq ?_
        refine WP.any (N := 25) (S := [⟨some 39, [7], []⟩, ⟨some 40, [39], [0]⟩, ⟨some 41, [40], [1]⟩, ⟨some 42, [41], [2]⟩, ⟨some 43, [7], []⟩, ⟨some 44, [43], [4]⟩, ⟨some 45, [44], [5]⟩, ⟨some 46, [7], []⟩, ⟨some 47, [46], [7]⟩, ⟨some 48, [47], [6, 8]⟩, ⟨some 49, [7], []⟩, ⟨some 50, [49], [10]⟩, ⟨some 51, [50], [9, 11]⟩, ⟨some 52, [9], [0, 1, 2, 3]⟩, ⟨some 53, [52], [0, 1, 2, 3, 13]⟩, ⟨none, [42, 53], [0, 1, 2, 3, 12, 14]⟩, ⟨some 54, [9], [0, 1, 2, 3, 4, 5, 6, 13, 14, 15]⟩, ⟨some 55, [54], [0, 1, 2, 3, 4, 5, 6, 13, 14, 15, 16]⟩, ⟨none, [45, 55], [0, 1, 2, 3, 4, 5, 6, 13, 14, 15, 17]⟩, ⟨some 56, [9], [0, 1, 2, 3, 4, 5, 6, 7, 8, 9, 13, 14, 15, 16, 17, 18]⟩, ⟨some 57, [56], [0, 1, 2, 3, 4, 5, 6, 7, 8, 9, 13, 14, 15, 16, 17, 18, 19]⟩, ⟨none, [48, 57], [0, 1, 2, 3, 4, 5, 6, 7, 8, 9, 13, 14, 15, 16, 17, 18, 20]⟩, ⟨some 58, [9], [0, 1, 2, 3, 4, 5, 6, 7, 8, 9, 10, 11, 12, 13, 14, 15, 16, 17, 18, 19, 20, 21]⟩, ⟨some 59, [58], [0, 1, 2, 3, 4, 5, 6, 7, 8, 9, 10, 11, 12, 13, 14, 15, 16, 17, 18, 19, 20, 21, 22]⟩, ⟨none, [51, 59], [0, 1, 2, 3, 4, 5, 6, 7, 8, 9, 10, 11, 12, 13, 14, 15, 16, 17, 18, 19, 20, 21, 23]⟩]) (kw := 15) (G0 := G) (Γ0 := [(b16, .cells #[.int .i64 0, .int .i64 0, .int .i64 0, .int .i64 0, .string (⟨#[]⟩ : ByteArray)] 27 (0, 0))] :: [(b1, .cells #[.int .i64 0, .int .i64 0, .int .i64 0, .int .i64 0, .string (⟨#[]⟩ : ByteArray)] 27 (0, 0))] :: Γ) mo (by kernel_rfl) (fun hS => ?_)
        refine WA.pure [0, 4, 7, 10] [1, 4, 7, 8, 9, 39, 43, 46, 49] (m := 21) (b' := 1169) (L' := [(1, .int .i64 a1), (4, .pointer (some ⟨b1, 0, none⟩)), (7, .slice AP8 v9.length cP8), (8, .int .i64 v13), (9, .pointer (some ⟨b16, 0, none⟩)), (39, .slice AP8 v9.length cP8), (43, .slice AP8 v9.length cP8), (46, .slice AP8 v9.length cP8), (49, .slice AP8 v9.length cP8)]) (by kernel_rfl) (NoPanic.then (NoPanic.body)) Under.refl hS (by kernel_rfl) ?_
        by_cases hb17 : 0 ≤ (0 : Int) ∧ (0 : Int) < (v9.length : Int)
        case neg => rw [if_neg hb17] at h; cases h
        rw [if_pos hb17] at h
        refine WA.tellD [15] (i := 1) (m := 20) (b' := 1171) (by kernel_rfl) (NoPanic.then (NoPanic.body)) Under.refl hS (by kernel_rfl) (op := .indexAddr 29 (.tmp 39) (.const (.int .i64 0))) (ty := 0) (d := some 40) (g := none) (by kernel_rfl) (by kernel_rfl) (by kernel_rfl) (Tells.indexAddr (A := AP8) (n := v9.length) (c := cP8) (k := .i64) (j := 0) (by kernel_rfl) (by kernel_rfl) (Hn11.isSome hb17.1 hb17.2) hb17.1 hb17.2 sl29) ?_
        refine WA.tellDE [15] (i := 2) (m := 19) (b' := 1175) (by kernel_rfl) (NoPanic.then (NoPanic.body)) Under.refl hS (by kernel_rfl) (op := .load 5 (.tmp 40)) (ty := 5) (d := some 41) (g := none) (by kernel_rfl) (by kernel_rfl) (by kernel_rfl) (Hn11.load (agg := false) hb17.1 hb17.2 0 ag5 (fun _ => rfl) (by kernel_rfl)) ?_
        rintro _ rfl
        refine WA.pure [3, 13, 14] [1, 4, 7, 8, 9, 42, 43, 46, 49, 53] (m := 16) (b' := 25759) (L' := [(1, .int .i64 a1), (4, .pointer (some ⟨b1, 0, none⟩)), (7, .slice AP8 v9.length cP8), (8, .int .i64 v13), (9, .pointer (some ⟨b16, 0, none⟩)), (42, .int .i64 (IntKind.i64.wrap (v9.getD (0 : Int).toNat 0))), (43, .slice AP8 v9.length cP8), (46, .slice AP8 v9.length cP8), (49, .slice AP8 v9.length cP8), (53, .pointer (some ⟨b16, 0, none⟩))]) (by kernel_rfl) (NoPanic.then (NoPanic.body)) Under.refl hS (by kernel_rfl) ?_
        by_cases hb18 : 0 ≤ (1 : Int) ∧ (1 : Int) ≤ (3 : Int) ∧ (3 : Int) ≤ (v9.length : Int)
        case neg => rw [if_neg hb18] at h; cases h
        rw [if_pos hb18] at h
        refine WA.tellDS [15, 12, 9, 6] (i := 5) (m := 15) (b' := 25791) (by kernel_rfl) (NoPanic.then (NoPanic.body)) Under.refl hS (by kernel_rfl) (op := .slice 29 (.tmp 43) (some (.const (.int .i64 1))) (some (.const (.int .i64 3))) none) (ty := 29) (d := some 44) (g := none) (by kernel_rfl) (by kernel_rfl) (by kernel_rfl) (Hn11.slice (l := 1) (h := 3) (by kernel_rfl) ⟨.i64, by kernel_rfl⟩ ⟨.i64, by kernel_rfl⟩ hb18.1 hb18.2.1 hb18.2.2 sl29) ?_
        rintro AP19 cP19 HP19
        by_cases hb20 : 0 ≤ (3 : Int) ∧ (3 : Int) ≤ (9 : Int) ∧ (9 : Int) ≤ (v9.length : Int)
        case neg => rw [if_neg hb20] at h; cases h
        rw [if_pos hb20] at h
        refine WA.tellDS [15, 12, 9] (i := 8) (m := 14) (b' := 26047) (by kernel_rfl) (NoPanic.then (NoPanic.body)) Under.refl hS (by kernel_rfl) (op := .slice 29 (.tmp 46) (some (.const (.int .i64 3))) (some (.const (.int .i64 9))) none) (ty := 29) (d := some 47) (g := none) (by kernel_rfl) (by kernel_rfl) (by kernel_rfl) (Hn11.slice (l := 3) (h := 9) (by kernel_rfl) ⟨.i64, by kernel_rfl⟩ ⟨.i64, by kernel_rfl⟩ hb20.1 hb20.2.1 hb20.2.2 sl29) ?_
        rintro AP21 cP21 HP21
        by_cases hb22 : 0 ≤ (9 : Int) ∧ (9 : Int) ≤ (11 : Int) ∧ (11 : Int) ≤ (v9.length : Int)
        case neg => rw [if_neg hb22] at h; cases h
        rw [if_pos hb22] at h
        refine WA.tellDS [15, 12] (i := 11) (m := 13) (b' := 28095) (by kernel_rfl) (NoPanic.then (NoPanic.body)) Under.refl hS (by kernel_rfl) (op := .slice 29 (.tmp 49) (some (.const (.int .i64 9))) (some (.const (.int .i64 11))) none) (ty := 29) (d := some 50) (g := none) (by kernel_rfl) (by kernel_rfl) (by kernel_rfl) (Hn11.slice (l := 9) (h := 11) (by kernel_rfl) ⟨.i64, by kernel_rfl⟩ ⟨.i64, by kernel_rfl⟩ hb22.1 hb22.2.1 hb22.2.2 sl29) ?_
        rintro AP23 cP23 HP23
        rw [Option.bind_eq_some_iff] at h
        obtain ⟨t24, ht25, h⟩ := h
        refine WA.op (i := 6) (m := 12) (b' := 28159) (by kernel_rfl) hS (by kernel_rfl) (op := .call { callee := (.value (.func 54)), args := #[(.tmp 44)], argTypes := #[29] }) (ty := 3) (d := some 45) (g := none) (by kernel_rfl) (by kernel_rfl) (by kernel_rfl) (Does.call (f := 54) (args := [.slice AP19 ((v9.take (3 : Int).toNat).drop (1 : Int).toNat).length cP19]) (by kernel_rfl) (fun W hI => (record_number_calls k ((v9.take (3 : Int).toNat).drop (1 : Int).toNat) AP19 cP19 HP19 t24 ht25 hI))) ?_
        rintro _ _ _ ⟨rfl, rfl, rfl⟩
        refine ⟨_, _, Under.refl, Under.refl, ?_⟩
        rw [Option.bind_eq_some_iff] at h
        obtain ⟨t28, ht29, h⟩ := h
        refine WA.op (i := 9) (m := 11) (b' := 28671) (by kernel_rfl) hS (by kernel_rfl) (op := .call { callee := (.value (.func 54)), args := #[(.tmp 47)], argTypes := #[29] }) (ty := 3) (d := some 48) (g := none) (by kernel_rfl) (by kernel_rfl) (by kernel_rfl) (Does.call (f := 54) (args := [.slice AP21 ((v9.take (9 : Int).toNat).drop (3 : Int).toNat).length cP21]) (by kernel_rfl) (fun W hI => (record_number_calls k ((v9.take (9 : Int).toNat).drop (3 : Int).toNat) AP21 cP21 HP21 t28 ht29 hI))) ?_
        rintro _ _ _ ⟨rfl, rfl, rfl⟩
        refine ⟨_, _, Under.refl, Under.refl, ?_⟩
        rw [Option.bind_eq_some_iff] at h
        obtain ⟨t32, ht33, h⟩ := h
        refine WA.op (i := 12) (m := 10) (b' := 32767) (by kernel_rfl) hS (by kernel_rfl) (op := .call { callee := (.value (.func 54)), args := #[(.tmp 50)], argTypes := #[29] }) (ty := 3) (d := some 51) (g := none) (by kernel_rfl) (by kernel_rfl) (by kernel_rfl) (Does.call (f := 54) (args := [.slice AP23 ((v9.take (11 : Int).toNat).drop (9 : Int).toNat).length cP23]) (by kernel_rfl) (fun W hI => (record_number_calls k ((v9.take (11 : Int).toNat).drop (9 : Int).toNat) AP23 cP23 HP23 t32 ht33 hI))) ?_
        rintro _ _ _ ⟨rfl, rfl, rfl⟩
        refine ⟨_, _, Under.refl, Under.refl, ?_⟩
        refine WA.opK (i := 15) (kw' := 18) (m := 9) (b' := 65535) (by kernel_rfl) rfl hS (by kernel_rfl) (op := .store 3 (.tmp 53) (.tmp 42)) (ty := 0) (d := none) (g := none) (by kernel_rfl) (by kernel_rfl) (by kernel_rfl) (Does.store_box (i := 0) (b := b16) (o := 0) (v := .int .i64 (IntKind.i64.wrap (v9.getD (0 : Int).toNat 0))) (by rfl) sz3 (by kernel_rfl) (by kernel_rfl) (by kernel_rfl) (Free.zero _) (Nat.le_of_ble_eq_true rfl) (cells' := #[.int .i64 (IntKind.i64.wrap (v9.getD (0 : Int).toNat 0)), .int .i64 0, .int .i64 0, .int .i64 0, .string (⟨#[]⟩ : ByteArray)]) (by kernel_rfl)) ?_
        rintro _ _ _ ⟨rfl, rfl, rfl⟩
        refine ⟨_, _, Under.refl, ?_⟩
        refine WA.pure [16, 17] [1, 4, 7, 8, 9, 45, 48, 51, 55] (m := 7) (b' := 262143) (L' := [(1, .int .i64 a1), (4, .pointer (some ⟨b1, 0, none⟩)), (7, .slice AP8 v9.length cP8), (8, .int .i64 v13), (9, .pointer (some ⟨b16, 0, none⟩)), (45, .int .i64 t24), (48, .int .i64 t28), (51, .int .i64 t32), (55, .pointer (some ⟨b16, 1, none⟩))]) (by kernel_rfl) (NoPanic.then (NoPanic.body)) Under.refl hS (by kernel_rfl) ?_
        refine WA.opK (i := 18) (kw' := 21) (m := 6) (b' := 524287) (by kernel_rfl) rfl hS (by kernel_rfl) (op := .store 3 (.tmp 55) (.tmp 45)) (ty := 0) (d := none) (g := none) (by kernel_rfl) (by kernel_rfl) (by kernel_rfl) (Does.store_box (i := 0) (b := b16) (o := 1) (v := .int .i64 t24) (by rfl) sz3 (by kernel_rfl) (by kernel_rfl) (by kernel_rfl) (Free.zero _) (Nat.le_of_ble_eq_true rfl) (cells' := #[.int .i64 (IntKind.i64.wrap (v9.getD (0 : Int).toNat 0)), .int .i64 t24, .int .i64 0, .int .i64 0, .string (⟨#[]⟩ : ByteArray)]) (by kernel_rfl)) ?_
        rintro _ _ _ ⟨rfl, rfl, rfl⟩
        refine ⟨_, _, Under.refl, ?_⟩
        refine WA.pure [19, 20] [1, 4, 7, 8, 9, 48, 51, 57] (m := 4) (b' := 2097151) (L' := [(1, .int .i64 a1), (4, .pointer (some ⟨b1, 0, none⟩)), (7, .slice AP8 v9.length cP8), (8, .int .i64 v13), (9, .pointer (some ⟨b16, 0, none⟩)), (48, .int .i64 t28), (51, .int .i64 t32), (57, .pointer (some ⟨b16, 2, none⟩))]) (by kernel_rfl) (NoPanic.then (NoPanic.body)) Under.refl hS (by kernel_rfl) ?_
        refine WA.opK (i := 21) (kw' := 24) (m := 3) (b' := 4194303) (by kernel_rfl) rfl hS (by kernel_rfl) (op := .store 3 (.tmp 57) (.tmp 48)) (ty := 0) (d := none) (g := none) (by kernel_rfl) (by kernel_rfl) (by kernel_rfl) (Does.store_box (i := 0) (b := b16) (o := 2) (v := .int .i64 t28) (by rfl) sz3 (by kernel_rfl) (by kernel_rfl) (by kernel_rfl) (Free.zero _) (Nat.le_of_ble_eq_true rfl) (cells' := #[.int .i64 (IntKind.i64.wrap (v9.getD (0 : Int).toNat 0)), .int .i64 t24, .int .i64 t28, .int .i64 0, .string (⟨#[]⟩ : ByteArray)]) (by kernel_rfl)) ?_
        rintro _ _ _ ⟨rfl, rfl, rfl⟩
        refine ⟨_, _, Under.refl, ?_⟩
        refine WA.pure [22, 23] [1, 4, 7, 8, 9, 51, 59] (m := 1) (b' := 16777215) (L' := [(1, .int .i64 a1), (4, .pointer (some ⟨b1, 0, none⟩)), (7, .slice AP8 v9.length cP8), (8, .int .i64 v13), (9, .pointer (some ⟨b16, 0, none⟩)), (51, .int .i64 t32), (59, .pointer (some ⟨b16, 3, none⟩))]) (by kernel_rfl) (NoPanic.then (NoPanic.body)) Under.refl hS (by kernel_rfl) ?_
        refine WA.opK (i := 24) (kw' := 25) (m := 0) (b' := 33554431) (by kernel_rfl) rfl hS (by kernel_rfl) (op := .store 3 (.tmp 59) (.tmp 51)) (ty := 0) (d := none) (g := none) (by kernel_rfl) (by kernel_rfl) (by kernel_rfl) (Does.store_box (i := 0) (b := b16) (o := 3) (v := .int .i64 t32) (by rfl) sz3 (by kernel_rfl) (by kernel_rfl) (by kernel_rfl) (Free.zero _) (Nat.le_of_ble_eq_true rfl) (cells' := #[.int .i64 (IntKind.i64.wrap (v9.getD (0 : Int).toNat 0)), .int .i64 t24, .int .i64 t28, .int .i64 t32, .string (⟨#[]⟩ : ByteArray)]) (by kernel_rfl)) ?_
        rintro _ _ _ ⟨rfl, rfl, rfl⟩
        refine ⟨_, _, Under.refl, ?_⟩
        refine WA.done hS (by kernel_rfl) ?_
        refine QP.pick [1, 4, 7, 8, 9] ?_
        refine QP.next ?_
        refine WP.seqR ?_
        refine WL.pure 0 3 [1, 4, 8, 9, 60, 62] (L' := [(1, .int .i64 a1), (4, .pointer (some ⟨b1, 0, none⟩)), (8, .int .i64 v13), (9, .pointer (some ⟨b16, 0, none⟩)), (60, .slice AP8 v9.length cP8), (62, .int .i64 (IntKind.i64.wrap (12 + v13)))]) (by kernel_rfl) (by decide) ?_
        by_cases hb36 : 0 ≤ (12 : Int) ∧ (12 : Int) ≤ (IntKind.i64.wrap (12 + v13)) ∧ (IntKind.i64.wrap (12 + v13)) ≤ (v9.length : Int)
        case neg => rw [if_neg hb36] at h; cases h
        rw [if_pos hb36] at h
        refine WL.tellS (op := .slice 29 (.tmp 60) (some (.const (.int .i64 12))) (some (.tmp 62)) none) (ty := 29) (d := some 63) (g := none) (by kernel_rfl) (by kernel_rfl) (by kernel_rfl) (Hn11.slice (l := 12) (h := (IntKind.i64.wrap (12 + v13))) (by kernel_rfl) ⟨.i64, by kernel_rfl⟩ ⟨.i64, by kernel_rfl⟩ hb36.1 hb36.2.1 hb36.2.2 sl29) ?_
        rintro AP37 cP37 HP37
        refine WL.tell (op := .convert 29 9 (.tmp 63)) (ty := 9) (d := some 64) (g := none) (by kernel_rfl) (by kernel_rfl) (by kernel_rfl) (HP37.str (by kernel_rfl) by29 st9) ?_
        refine WL.pure 5 6 [1, 4, 8, 9, 64, 65] (L' := [(1, .int .i64 a1), (4, .pointer (some ⟨b1, 0, none⟩)), (8, .int .i64 v13), (9, .pointer (some ⟨b16, 0, none⟩)), (64, .string (strOfNums ((v9.take (IntKind.i64.wrap (12 + v13)).toNat).drop (12 : Int).toNat))), (65, .pointer (some ⟨b16, 4, none⟩))]) (by kernel_rfl) (by decide) ?_
        refine WL.op (op := .store 9 (.tmp 65) (.tmp 64)) (ty := 0) (d := none) (g := none) (by kernel_rfl) (by kernel_rfl) (by kernel_rfl) (Does.store_box (i := 0) (b := b16) (o := 4) (v := .string (strOfNums ((v9.take (IntKind.i64.wrap (12 + v13)).toNat).drop (12 : Int).toNat))) (by rfl) sz9 (by kernel_rfl) (by kernel_rfl) (by kernel_rfl) (Free.zero _) (Nat.le_of_ble_eq_true rfl) (cells' := #[.int .i64 (IntKind.i64.wrap (v9.getD (0 : Int).toNat 0)), .int .i64 t24, .int .i64 t28, .int .i64 t32, .string (strOfNums ((v9.take (IntKind.i64.wrap (12 + v13)).toNat).drop (12 : Int).toNat))]) (by kernel_rfl)) ?_
        rintro _ _ _ ⟨rfl, rfl, rfl⟩
        refine WL.restQ 7 [1, 4, 8, 9] (L' := [(1, .int .i64 a1), (4, .pointer (some ⟨b1, 0, none⟩)), (8, .int .i64 v13), (9, .pointer (some ⟨b16, 0, none⟩))]) (by kernel_rfl) ?_
        refine WP.seq ?_
        refine WP.seqR ?_
        refine WL.tell (op := .load 27 (.tmp 9)) (ty := 27) (d := some 66) (g := none) (by kernel_rfl) (by kernel_rfl) (by kernel_rfl) (Tells.load_box (i := 0) (b := b16) (o := 0) (agg := true) (by rfl) ag27 (by kernel_rfl) (fun h => by cases h) (Nat.le_of_ble_eq_true rfl) (v := .agg #[.int .i64 (IntKind.i64.wrap (v9.getD (0 : Int).toNat 0)), .int .i64 t24, .int .i64 t28, .int .i64 t32, .string (strOfNums ((v9.take (IntKind.i64.wrap (12 + v13)).toNat).drop (12 : Int).toNat))]) (by kernel_rfl)) ?_
        rw [Option.bind_eq_some_iff] at h
        obtain ⟨t38, ht39, h⟩ := h
        refine WL.op (op := .call { callee := (.value (.func 23)), args := #[(.tmp 66)], argTypes := #[27] }) (ty := 4) (d := some 67) (g := none) (by kernel_rfl) (by kernel_rfl) (by kernel_rfl) (Does.call (f := 23) (args := [.agg #[.int .i64 (IntKind.i64.wrap (v9.getD (0 : Int).toNat 0)), .int .i64 t24, .int .i64 t28, .int .i64 t32, .string (strOfNums ((v9.take (IntKind.i64.wrap (12 + v13)).toNat).drop (12 : Int).toNat))]]) (by kernel_rfl) (fun W hI => (record_May_calls HT (⟨IntKind.i64.wrap (v9.getD (0 : Int).toNat 0), t24, t28, t32, (strOfNums ((v9.take (IntKind.i64.wrap (12 + v13)).toNat).drop (12 : Int).toNat))⟩ : T27)  t38 ht39 hI))) ?_
        rintro _ _ _ ⟨rfl, rfl, rfl⟩
        refine WL.restQ 2 [1, 4, 8, 9, 68] (L' := [(1, .int .i64 a1), (4, .pointer (some ⟨b1, 0, none⟩)), (8, .int .i64 v13), (9, .pointer (some ⟨b16, 0, none⟩)), (68, .bool (!t38))]) (by kernel_rfl) ?_
        refine WP.cond (b := (!t38)) (by kernel_rfl) (fun hc => ?_) (fun hc => ?_)
        · replace hc := hc
          rw [if_pos hc] at h
          have hc42 := hc
          clear hc
          refine WP.seqR ?_
          refine WL.pure 0 1 [4, 69] (L' := [(4, .pointer (some ⟨b1, 0, none⟩)), (69, .agg #[.int .i64 0, .int .i64 0, .int .i64 0, .int .i64 0, .string (⟨#[]⟩ : ByteArray)])]) (by kernel_rfl) (by decide) ?_
          refine WL.op (op := .store 27 (.tmp 4) (.tmp 69)) (ty := 0) (d := none) (g := none) (by kernel_rfl) (by kernel_rfl) (by kernel_rfl) (Does.store_box (i := 1) (b := b1) (o := 0) (v := .agg #[.int .i64 0, .int .i64 0, .int .i64 0, .int .i64 0, .string (⟨#[]⟩ : ByteArray)]) (by rfl) sz27 (by kernel_rfl) (by kernel_rfl) (by kernel_rfl) (Free.zero _) (Nat.le_of_ble_eq_true rfl) (cells' := #[.int .i64 0, .int .i64 0, .int .i64 0, .int .i64 0, .string (⟨#[]⟩ : ByteArray)]) (by kernel_rfl)) ?_
          rintro _ _ _ ⟨rfl, rfl, rfl⟩
          refine WL.restQ 2 [4, 5, 6] (L' := [(4, .pointer (some ⟨b1, 0, none⟩)), (5, .int .i64 0), (6, .bool false)]) (by kernel_rfl) ?_
          refine WP.dropAt 0 ?_
          refine WP.ret ?_
          refine QP.thenR ?_
          obtain rfl := Option.some.inj h
          exact QP.returnedM (rs := [.cell 4 27, .tmp 5, .tmp 6]) (by kernel_rfl) (ResAll.cons (Res1.box (p := 4) (i := 0) (o := 0) (agg := true) (by rfl) ag27 (by kernel_rfl) (fun h => by cases h) (Nat.le_of_ble_eq_true rfl) (v := .agg #[.int .i64 0, .int .i64 0, .int .i64 0, .int .i64 0, .string (⟨#[]⟩ : ByteArray)]) (by kernel_rfl)) (ResAll.cons (Res1.tmp (t := 5) (v := .int .i64 0) (by kernel_rfl)) (ResAll.cons (Res1.tmp (t := 6) (v := .bool false) (by kernel_rfl)) ResAll.nil))) (by kernel_rfl) (fun W hI => ⟨_, _, _, rfl, ⟨rfl, rfl, rfl⟩, (hI.less 0 rfl)⟩)
        · replace hc := (Bool.eq_false_iff.1 hc)
          rw [if_neg hc] at h
          have hc42 := hc
          clear hc
          refine WP.skip ?_
          refine QP.next ?_
          refine WP.pick [1, 4, 8, 9] ?_
          refine WP.seqR ?_
          refine WL.tell (op := .load 27 (.tmp 9)) (ty := 27) (d := some 70) (g := none) (by kernel_rfl) (by kernel_rfl) (by kernel_rfl) (Tells.load_box (i := 0) (b := b16) (o := 0) (agg := true) (by rfl) ag27 (by kernel_rfl) (fun h => by cases h) (Nat.le_of_ble_eq_true rfl) (v := .agg #[.int .i64 (IntKind.i64.wrap (v9.getD (0 : Int).toNat 0)), .int .i64 t24, .int .i64 t28, .int .i64 t32, .string (strOfNums ((v9.take (IntKind.i64.wrap (12 + v13)).toNat).drop (12 : Int).toNat))]) (by kernel_rfl)) ?_
          refine WL.pure 1 5 [4, 70, 74] (L' := [(4, .pointer (some ⟨b1, 0, none⟩)), (70, .agg #[.int .i64 (IntKind.i64.wrap (v9.getD (0 : Int).toNat 0)), .int .i64 t24, .int .i64 t28, .int .i64 t32, .string (strOfNums ((v9.take (IntKind.i64.wrap (12 + v13)).toNat).drop (12 : Int).toNat))]), (74, .int .i64 (IntKind.i64.wrap ((IntKind.i64.wrap (a1 + 12)) + v13)))]) (by kernel_rfl) (by decide) ?_
          refine WL.op (op := .store 27 (.tmp 4) (.tmp 70)) (ty := 0) (d := none) (g := none) (by kernel_rfl) (by kernel_rfl) (by kernel_rfl) (Does.store_box (i := 1) (b := b1) (o := 0) (v := .agg #[.int .i64 (IntKind.i64.wrap (v9.getD (0 : Int).toNat 0)), .int .i64 t24, .int .i64 t28, .int .i64 t32, .string (strOfNums ((v9.take (IntKind.i64.wrap (12 + v13)).toNat).drop (12 : Int).toNat))]) (by rfl) sz27 (by kernel_rfl) (by kernel_rfl) (by kernel_rfl) (Free.zero _) (Nat.le_of_ble_eq_true rfl) (cells' := #[.int .i64 (IntKind.i64.wrap (v9.getD (0 : Int).toNat 0)), .int .i64 t24, .int .i64 t28, .int .i64 t32, .string (strOfNums ((v9.take (IntKind.i64.wrap (12 + v13)).toNat).drop (12 : Int).toNat))]) (by kernel_rfl)) ?_
          rintro _ _ _ ⟨rfl, rfl, rfl⟩
          refine WL.restQ 6 [4, 5, 6] (L' := [(4, .pointer (some ⟨b1, 0, none⟩)), (5, .int .i64 (IntKind.i64.wrap ((IntKind.i64.wrap (a1 + 12)) + v13))), (6, .bool true)]) (by kernel_rfl) ?_
          refine WP.dropAt 0 ?_
          refine WP.ret ?_
          obtain rfl := Option.some.inj h
          exact QP.returnedM (rs := [.cell 4 27, .tmp 5, .tmp 6]) (by kernel_rfl) (ResAll.cons (Res1.box (p := 4) (i := 0) (o := 0) (agg := true) (by rfl) ag27 (by kernel_rfl) (fun h => by cases h) (Nat.le_of_ble_eq_true rfl) (v := .agg #[.int .i64 (IntKind.i64.wrap (v9.getD (0 : Int).toNat 0)), .int .i64 t24, .int .i64 t28, .int .i64 t32, .string (strOfNums ((v9.take (IntKind.i64.wrap (12 + v13)).toNat).drop (12 : Int).toNat))]) (by kernel_rfl)) (ResAll.cons (Res1.tmp (t := 5) (v := .int .i64 (IntKind.i64.wrap ((IntKind.i64.wrap (a1 + 12)) + v13))) (by kernel_rfl)) (ResAll.cons (Res1.tmp (t := 6) (v := .bool true) (by kernel_rfl)) ResAll.nil))) (by kernel_rfl) (fun W hI => ⟨_, _, _, rfl, ⟨rfl, rfl, rfl⟩, (hI.less 0 rfl)⟩)

/-! ### grapevine/grapevinelaw0.SameBytes: function 16 -/
def grapevinelaw0_SameBytes_l0 (l0 : List Int) (l1 : List Int) : Nat → Int → Option (Sum Bool Unit)
  | 0, _ => none
  | k + 1, y4 => (if y4 < (l0.length : Int) then (if 0 ≤ y4 ∧ y4 < (l0.length : Int) then (if 0 ≤ y4 ∧ y4 < (l1.length : Int) then (if ¬ (l0.getD y4.toNat 0) = (l1.getD y4.toNat 0) then some (Sum.inl false) else grapevinelaw0_SameBytes_l0 l0 l1 k (IntKind.i64.wrap (y4 + 1))) else none) else none) else some (Sum.inr ()))
def grapevinelaw0_SameBytes (k : Nat) (l0 : List Int) (l1 : List Int) : Option Bool := (if ¬ (l0.length : Int) = (l1.length : Int) then some false else ((grapevinelaw0_SameBytes_l0 l0 l1 k 0).bind fun os2 => match os2 with | Sum.inl r => some r | Sum.inr s2 => some true))
set_option maxHeartbeats 4000000 in
theorem grapevinelaw0_SameBytes_calls {B : World} {G : GMap} {Γ : List Chunk} {W : World} (k : Nat) (l0 : List Int) (l1 : List Int) (Al0 : Option Addr) (cl0 : Nat) (Hl0 : Rd (kInt .u8) G Al0 cl0 l0) (Al1 : Option Addr) (cl1 : Nat) (Hl1 : Rd (kInt .u8) G Al1 cl1 l1) (r : Bool) (h : grapevinelaw0_SameBytes k l0 l1 = some r) (hI : Inv B G (Γ) W) :
    Calls Tryd.prog 16 [.slice Al0 l0.length cl0, .slice Al1 l1.length cl1].toArray W (Ret B (fun v G' Γ' => v = .bool r ∧ G = G' ∧ Γ = Γ')) := by
  refine calls_WP (Γ := Γ) (G := G) (B := B) Tryd.func16 rfl (by kernel_rfl) ?_ hI
  clear hI
  unfold grapevinelaw0_SameBytes at h
  refine WP.seqP [0, 1] (L' := [(0, .slice Al0 l0.length cl0), (1, .slice Al1 l1.length cl1)]) (by kernel_rfl) ?_
  refine WP.seq ?_
  refine WP.seqP [0, 1, 10] (L' := [(0, .slice Al0 l0.length cl0), (1, .slice Al1 l1.length cl1), (10, .bool ((l0.length : Int) != (l1.length : Int)))]) (by kernel_rfl) ?_
  refine WP.cond (b := ((l0.length : Int) != (l1.length : Int))) (by kernel_rfl) (fun hc => ?_) (fun hc => ?_)
  · replace hc := (bne_iff_ne.1 hc)
    rw [if_pos hc] at h
    have hc1 := hc
    clear hc
    refine WP.seqP [4] (L' := [(4, .bool false)]) (by kernel_rfl) ?_
    refine WP.ret ?_
    refine QP.thenR ?_
    obtain rfl := Option.some.inj h
    exact QP.returned [4] [.bool false] _ (by kernel_rfl) (by kernel_rfl) (by kernel_rfl) (fun W hI => ⟨_, _, _, rfl, ⟨rfl, rfl, rfl⟩, hI⟩)
  · replace hc := (not_not_intro (bne_eq_false_iff_eq.1 hc))
    rw [if_neg hc] at h
    have hc1 := hc
    clear hc
    refine WP.skip ?_
    refine QP.next ?_
    refine WP.pick [0, 1] ?_
    refine WP.seq ?_
    refine WP.seqP [0, 1, 5] (L' := [(0, .slice Al0 l0.length cl0), (1, .slice Al1 l1.length cl1), (5, .int .i64 0)]) (by kernel_rfl) ?_
    rw [Option.bind_eq_some_iff] at h
    obtain ⟨os2, h, hk3⟩ := h
    refine WP.cutQ (fun L' G' Γ' => ∃ s2 : Unit, Sum.inr s2 = os2 ∧ L' = [] ∧ G = G' ∧ Γ = Γ') ?_ ?_
    · skip
      refine WP.block ?_
      refine WP.pick [0, 1, 5] ?_
      refine WP.loopF (fun kn5 L' G' Γ' => ∃ (y4 : Int), grapevinelaw0_SameBytes_l0 l0 l1 kn5 y4 = some os2 ∧ L' = [(0, .slice Al0 l0.length cl0), (1, .slice Al1 l1.length cl1), (5, .int .i64 y4)] ∧ G = G' ∧ Γ = Γ') ?_ k ⟨0, h, rfl, rfl, rfl⟩
      clear h
      rintro kn6 _ _ _ ⟨y4, h, rfl, rfl, rfl⟩
      cases kn6 with
      | zero => exact absurd h (by simp [grapevinelaw0_SameBytes_l0])
      | succ kn6 =>
        simp only [grapevinelaw0_SameBytes_l0] at h
        refine WP.seq ?_
        refine WP.seqP [0, 1, 5, 14] (L' := [(0, .slice Al0 l0.length cl0), (1, .slice Al1 l1.length cl1), (5, .int .i64 y4), (14, .bool (decide (y4 < (l0.length : Int))))]) (by kernel_rfl) ?_
        refine WP.cond (b := decide (y4 < (l0.length : Int))) (by kernel_rfl) (fun hc => ?_) (fun hc => ?_)
        · replace hc := of_decide_eq_true hc
          rw [if_pos hc] at h
          have hc7 := hc
          clear hc
          refine WP.skip ?_
          refine QP.next ?_
          refine WP.pick [0, 1, 5] ?_
          refine WP.seq ?_
          refine WP.block ?_
          refine WP.seq ?_
          refine WP.any (N := 9) (S := [⟨some 17, [0], []⟩, ⟨some 18, [5], []⟩, ⟨some 19, [17, 18], [0, 1]⟩, ⟨some 20, [19], [2]⟩, ⟨some 21, [1], []⟩, ⟨some 22, [5], []⟩, ⟨some 23, [21, 22], [4, 5]⟩, ⟨some 24, [23], [6]⟩, ⟨some 25, [20, 24], [3, 7]⟩]) (kw := 9) (G0 := G) (Γ0 := Γ) mo (by kernel_rfl) (fun hS => ?_)
          refine WA.pure [0, 1, 4, 5] [0, 1, 5, 17, 18, 21, 22] (m := 5) (b' := 51) (L' := [(0, .slice Al0 l0.length cl0), (1, .slice Al1 l1.length cl1), (5, .int .i64 y4), (17, .slice Al0 l0.length cl0), (18, .int .i64 y4), (21, .slice Al1 l1.length cl1), (22, .int .i64 y4)]) (by kernel_rfl) (NoPanic.then (NoPanic.block (NoPanic.then (NoPanic.then (NoPanic.block (NoPanic.then (NoPanic.then (NoPanic.body)))))))) Under.refl hS (by kernel_rfl) ?_
          by_cases hb8 : 0 ≤ y4 ∧ y4 < (l0.length : Int)
          case neg => rw [if_neg hb8] at h; cases h
          rw [if_pos hb8] at h
          refine WA.tellD [] (i := 2) (m := 4) (b' := 55) (by kernel_rfl) (NoPanic.then (NoPanic.block (NoPanic.then (NoPanic.then (NoPanic.block (NoPanic.then (NoPanic.then (NoPanic.body)))))))) Under.refl hS (by kernel_rfl) (op := .indexAddr 29 (.tmp 17) (.tmp 18)) (ty := 0) (d := some 19) (g := none) (by kernel_rfl) (by kernel_rfl) (by kernel_rfl) (Tells.indexAddr (A := Al0) (n := l0.length) (c := cl0) (k := .i64) (j := y4) (by kernel_rfl) (by kernel_rfl) (Hl0.isSome hb8.1 hb8.2) hb8.1 hb8.2 sl29) ?_
          refine WA.tellDE [] (i := 3) (m := 3) (b' := 63) (by kernel_rfl) (NoPanic.then (NoPanic.block (NoPanic.then (NoPanic.then (NoPanic.block (NoPanic.then (NoPanic.then (NoPanic.body)))))))) Under.refl hS (by kernel_rfl) (op := .load 5 (.tmp 19)) (ty := 5) (d := some 20) (g := none) (by kernel_rfl) (by kernel_rfl) (by kernel_rfl) (Hl0.load (agg := false) hb8.1 hb8.2 0 ag5 (fun _ => rfl) (by kernel_rfl)) ?_
          rintro _ rfl
          by_cases hb9 : 0 ≤ y4 ∧ y4 < (l1.length : Int)
          case neg => rw [if_neg hb9] at h; cases h
          rw [if_pos hb9] at h
          refine WA.tellD [] (i := 6) (m := 2) (b' := 127) (by kernel_rfl) (NoPanic.then (NoPanic.block (NoPanic.then (NoPanic.then (NoPanic.block (NoPanic.then (NoPanic.then (NoPanic.body)))))))) Under.refl hS (by kernel_rfl) (op := .indexAddr 29 (.tmp 21) (.tmp 22)) (ty := 0) (d := some 23) (g := none) (by kernel_rfl) (by kernel_rfl) (by kernel_rfl) (Tells.indexAddr (A := Al1) (n := l1.length) (c := cl1) (k := .i64) (j := y4) (by kernel_rfl) (by kernel_rfl) (Hl1.isSome hb9.1 hb9.2) hb9.1 hb9.2 sl29) ?_
          refine WA.tellDE [] (i := 7) (m := 1) (b' := 255) (by kernel_rfl) (NoPanic.then (NoPanic.block (NoPanic.then (NoPanic.then (NoPanic.block (NoPanic.then (NoPanic.then (NoPanic.body)))))))) Under.refl hS (by kernel_rfl) (op := .load 5 (.tmp 23)) (ty := 5) (d := some 24) (g := none) (by kernel_rfl) (by kernel_rfl) (by kernel_rfl) (Hl1.load (agg := false) hb9.1 hb9.2 0 ag5 (fun _ => rfl) (by kernel_rfl)) ?_
          rintro _ rfl
          refine WA.pure [8] [0, 1, 5, 25] (m := 0) (b' := 511) (L' := [(0, .slice Al0 l0.length cl0), (1, .slice Al1 l1.length cl1), (5, .int .i64 y4), (25, .bool ((l0.getD y4.toNat 0) != (l1.getD y4.toNat 0)))]) (by kernel_rfl) (NoPanic.then (NoPanic.block (NoPanic.then (NoPanic.then (NoPanic.block (NoPanic.then (NoPanic.then (NoPanic.body)))))))) Under.refl hS (by kernel_rfl) ?_
          refine WA.done hS (by kernel_rfl) ?_
          refine QP.pick [0, 1, 5, 25] ?_
          refine QP.next ?_
          refine WP.cond (b := ((l0.getD y4.toNat 0) != (l1.getD y4.toNat 0))) (by kernel_rfl) (fun hc => ?_) (fun hc => ?_)
          · replace hc := (bne_iff_ne.1 hc)
            rw [if_pos hc] at h
            have hc10 := hc
            clear hc
            refine WP.seqP [4] (L' := [(4, .bool false)]) (by kernel_rfl) ?_
            refine WP.ret ?_
            refine QP.blockR ?_
            refine QP.thenR ?_
            refine QP.thenR ?_
            refine QP.blockR ?_
            refine QP.thenR ?_
            refine QP.thenR ?_
            obtain rfl := Option.some.inj h
            obtain rfl := Option.some.inj (show some _ = some _ from hk3)
            exact QP.returned [4] [.bool false] _ (by kernel_rfl) (by kernel_rfl) (by kernel_rfl) (fun W hI => ⟨_, _, _, rfl, ⟨rfl, rfl, rfl⟩, hI⟩)
          · replace hc := (not_not_intro (bne_eq_false_iff_eq.1 hc))
            rw [if_neg hc] at h
            have hc10 := hc
            clear hc
            refine WP.skip ?_
            refine QP.blockN ?_
            refine QP.next ?_
            refine WP.pick [0, 1, 5] ?_
            refine WP.regionP [0, 1, 5] (L' := [(0, .slice Al0 l0.length cl0), (1, .slice Al1 l1.length cl1), (5, .int .i64 (IntKind.i64.wrap (y4 + 1)))]) (by kernel_rfl) ?_
            refine QP.pick [0, 1, 5] ?_
            exact QP.meet ⟨kn6, Nat.lt_succ_self _, (IntKind.i64.wrap (y4 + 1)), h, rfl, rfl, rfl⟩
        · replace hc := of_decide_eq_false hc
          rw [if_neg hc] at h
          have hc7 := hc
          clear hc
          refine WP.exit ?_
          refine QP.thenE ?_
          refine QP.thenE ?_
          refine QP.blockE ?_
          refine QP.pick [] ?_
          exact QP.meet ⟨_, Option.some.inj h, rfl, rfl, rfl⟩
    · rintro _ _ _ ⟨s2, rfl, rfl, rfl, rfl⟩
      clear h
      replace h := hk3
      dsimp only at h
      refine QP.next ?_
      refine WP.pick [] ?_
      refine WP.seqP [4] (L' := [(4, .bool true)]) (by kernel_rfl) ?_
      refine WP.ret ?_
      obtain rfl := Option.some.inj h
      exact QP.returned [4] [.bool true] _ (by kernel_rfl) (by kernel_rfl) (by kernel_rfl) (fun W hI => ⟨_, _, _, rfl, ⟨rfl, rfl, rfl⟩, hI⟩)

/-! ### grapevine/record.Same: function 25 -/
def record_Same (a0 : T27) (a1 : T27) : Option Bool := some (decide (a0 = a1))
set_option maxHeartbeats 4000000 in
theorem record_Same_calls {B : World} {G : GMap} {Γ : List Chunk} {W : World} (a0 : T27) (a1 : T27) (r : Bool) (h : record_Same a0 a1 = some r) (hI : Inv B G (Γ) W) :
    Calls Tryd.prog 25 [.agg #[.int .i64 a0.f0, .int .i64 a0.f1, .int .i64 a0.f2, .int .i64 a0.f3, .string a0.f4], .agg #[.int .i64 a1.f0, .int .i64 a1.f1, .int .i64 a1.f2, .int .i64 a1.f3, .string a1.f4]].toArray W (Ret B (fun v G' Γ' => v = .bool r ∧ G = G' ∧ Γ = Γ')) := by
  refine calls_WP (Γ := Γ) (G := G) (B := B) Tryd.func25 rfl (by kernel_rfl) ?_ hI
  clear hI
  unfold record_Same at h
  refine WP.seqR ?_
  refine WL.op (op := .box 27 (.tmp 0)) (ty := 0) (d := some 2) (g := none) (by kernel_rfl) (by kernel_rfl) (by kernel_rfl) (Does.new (o := .cells #[.int .i64 a0.f0, .int .i64 a0.f1, .int .i64 a0.f2, .int .i64 a0.f3, .string a0.f4] 27 (0, 0)) (v := fun r => .pointer (some ⟨r, 0, none⟩)) (fun r => by kernel_rfl)) ?_
  rintro _ _ _ ⟨b1, rfl, rfl, rfl⟩
  refine WL.op (op := .box 27 (.tmp 1)) (ty := 0) (d := some 3) (g := none) (by kernel_rfl) (by kernel_rfl) (by kernel_rfl) (Does.new (o := .cells #[.int .i64 a1.f0, .int .i64 a1.f1, .int .i64 a1.f2, .int .i64 a1.f3, .string a1.f4] 27 (0, 0)) (v := fun r => .pointer (some ⟨r, 0, none⟩)) (fun r => by kernel_rfl)) ?_
  rintro _ _ _ ⟨b2, rfl, rfl, rfl⟩
  refine WL.restQ 2 [2, 3] (L' := [(2, .pointer (some ⟨b1, 0, none⟩)), (3, .pointer (some ⟨b2, 0, none⟩))]) (by kernel_rfl) ?_
  refine WP.seqR ?_
  refine WL.tell (op := .load 27 (.tmp 2)) (ty := 27) (d := some 5) (g := none) (by kernel_rfl) (by kernel_rfl) (by kernel_rfl) (Tells.load_box (i := 1) (b := b1) (o := 0) (agg := true) (by rfl) ag27 (by kernel_rfl) (fun h => by cases h) (Nat.le_of_ble_eq_true rfl) (v := .agg #[.int .i64 a0.f0, .int .i64 a0.f1, .int .i64 a0.f2, .int .i64 a0.f3, .string a0.f4]) (by kernel_rfl)) ?_
  refine WL.tell (op := .load 27 (.tmp 3)) (ty := 27) (d := some 6) (g := none) (by kernel_rfl) (by kernel_rfl) (by kernel_rfl) (Tells.load_box (i := 0) (b := b2) (o := 0) (agg := true) (by rfl) ag27 (by kernel_rfl) (fun h => by cases h) (Nat.le_of_ble_eq_true rfl) (v := .agg #[.int .i64 a1.f0, .int .i64 a1.f1, .int .i64 a1.f2, .int .i64 a1.f3, .string a1.f4]) (by kernel_rfl)) ?_
  refine WL.tell (op := .binOp .eql 27 (.tmp 5) (.tmp 6) 27) (ty := 4) (d := some 7) (g := none) (by kernel_rfl) (by kernel_rfl) (by kernel_rfl) (Tells.eqAgg (xs := #[.int .i64 a0.f0, .int .i64 a0.f1, .int .i64 a0.f2, .int .i64 a0.f3, .string a0.f4]) (ys := #[.int .i64 a1.f0, .int .i64 a1.f1, .int .i64 a1.f2, .int .i64 a1.f3, .string a1.f4]) (ls := [.int a0.f0 a1.f0, .int a0.f1 a1.f1, .int a0.f2 a1.f2, .int a0.f3 a1.f3, .str a0.f4 a1.f4]) (by kernel_rfl) (by kernel_rfl) (by kernel_rfl) eg27) ?_
  refine WL.reput 7 (v := .bool ([.int a0.f0 a1.f0, .int a0.f1 a1.f1, .int a0.f2 a1.f2, .int a0.f3 a1.f3, .str a0.f4 a1.f4].all Lf.ok)) (v' := .bool (decide (a0 = a1))) (by kernel_rfl) (by exact (congrArg Value.bool (eqT27 a0 a1))) ?_
  refine WL.restQ 3 [4] (L' := [(4, .bool (decide (a0 = a1)))]) (by kernel_rfl) ?_
  refine WP.dropAt 1 ?_
  refine WP.dropAt 0 ?_
  refine WP.ret ?_
  obtain rfl := Option.some.inj h
  exact QP.returned [4] [.bool (decide (a0 = a1))] _ (by kernel_rfl) (by kernel_rfl) (by kernel_rfl) (fun W hI => ⟨_, _, _, rfl, ⟨rfl, rfl, rfl⟩, hI⟩)

/-! ### grapevine/stamp.Less: function 62 -/
def stamp_Less (a0 : T25) (a1 : T25) : Option Bool := (if ¬ a0.f0 = a1.f0 then some (decide (a0.f0 < a1.f0)) else some (decide (a0.f1 < a1.f1)))
set_option maxHeartbeats 4000000 in
theorem stamp_Less_calls {B : World} {G : GMap} {Γ : List Chunk} {W : World} (a0 : T25) (a1 : T25) (r : Bool) (h : stamp_Less a0 a1 = some r) (hI : Inv B G (Γ) W) :
    Calls Tryd.prog 62 [.agg #[.int .i64 a0.f0, .int .i64 a0.f1], .agg #[.int .i64 a1.f0, .int .i64 a1.f1]].toArray W (Ret B (fun v G' Γ' => v = .bool r ∧ G = G' ∧ Γ = Γ')) := by
  refine calls_WP (Γ := Γ) (G := G) (B := B) Tryd.func62 rfl (by kernel_rfl) ?_ hI
  clear hI
  unfold stamp_Less at h
  refine WP.seqR ?_
  refine WL.op (op := .box 25 (.tmp 0)) (ty := 0) (d := some 2) (g := none) (by kernel_rfl) (by kernel_rfl) (by kernel_rfl) (Does.new (o := .cells #[.int .i64 a0.f0, .int .i64 a0.f1] 25 (0, 0)) (v := fun r => .pointer (some ⟨r, 0, none⟩)) (fun r => by kernel_rfl)) ?_
  rintro _ _ _ ⟨b1, rfl, rfl, rfl⟩
  refine WL.op (op := .box 25 (.tmp 1)) (ty := 0) (d := some 3) (g := none) (by kernel_rfl) (by kernel_rfl) (by kernel_rfl) (Does.new (o := .cells #[.int .i64 a1.f0, .int .i64 a1.f1] 25 (0, 0)) (v := fun r => .pointer (some ⟨r, 0, none⟩)) (fun r => by kernel_rfl)) ?_
  rintro _ _ _ ⟨b2, rfl, rfl, rfl⟩
  refine WL.restQ 2 [2, 3] (L' := [(2, .pointer (some ⟨b1, 0, none⟩)), (3, .pointer (some ⟨b2, 0, none⟩))]) (by kernel_rfl) ?_
  refine WP.seq ?_
  refine WP.seqR ?_
  refine WL.pure 0 1 [2, 3, 5] (L' := [(2, .pointer (some ⟨b1, 0, none⟩)), (3, .pointer (some ⟨b2, 0, none⟩)), (5, .pointer (some ⟨b1, 0, none⟩))]) (by kernel_rfl) (by decide) ?_
  refine WL.tell (op := .load 3 (.tmp 5)) (ty := 3) (d := some 6) (g := none) (by kernel_rfl) (by kernel_rfl) (by kernel_rfl) (Tells.load_box (i := 1) (b := b1) (o := 0) (agg := false) (by rfl) ag3 (by kernel_rfl) (fun _ => rfl) (Nat.le_of_ble_eq_true rfl) (v := .int .i64 a0.f0) (by kernel_rfl)) ?_
  refine WL.pure 2 3 [2, 3, 6, 7] (L' := [(2, .pointer (some ⟨b1, 0, none⟩)), (3, .pointer (some ⟨b2, 0, none⟩)), (6, .int .i64 a0.f0), (7, .pointer (some ⟨b2, 0, none⟩))]) (by kernel_rfl) (by decide) ?_
  refine WL.tell (op := .load 3 (.tmp 7)) (ty := 3) (d := some 8) (g := none) (by kernel_rfl) (by kernel_rfl) (by kernel_rfl) (Tells.load_box (i := 0) (b := b2) (o := 0) (agg := false) (by rfl) ag3 (by kernel_rfl) (fun _ => rfl) (Nat.le_of_ble_eq_true rfl) (v := .int .i64 a1.f0) (by kernel_rfl)) ?_
  refine WL.restQ 4 [2, 3, 9] (L' := [(2, .pointer (some ⟨b1, 0, none⟩)), (3, .pointer (some ⟨b2, 0, none⟩)), (9, .bool (a0.f0 != a1.f0))]) (by kernel_rfl) ?_
  refine WP.cond (b := (a0.f0 != a1.f0)) (by kernel_rfl) (fun hc => ?_) (fun hc => ?_)
  · replace hc := (bne_iff_ne.1 hc)
    rw [if_pos hc] at h
    have hc3 := hc
    clear hc
    refine WP.seqR ?_
    refine WL.pure 0 1 [3, 10] (L' := [(3, .pointer (some ⟨b2, 0, none⟩)), (10, .pointer (some ⟨b1, 0, none⟩))]) (by kernel_rfl) (by decide) ?_
    refine WL.tell (op := .load 3 (.tmp 10)) (ty := 3) (d := some 11) (g := none) (by kernel_rfl) (by kernel_rfl) (by kernel_rfl) (Tells.load_box (i := 1) (b := b1) (o := 0) (agg := false) (by rfl) ag3 (by kernel_rfl) (fun _ => rfl) (Nat.le_of_ble_eq_true rfl) (v := .int .i64 a0.f0) (by kernel_rfl)) ?_
    refine WL.pure 2 3 [11, 12] (L' := [(11, .int .i64 a0.f0), (12, .pointer (some ⟨b2, 0, none⟩))]) (by kernel_rfl) (by decide) ?_
    refine WL.tell (op := .load 3 (.tmp 12)) (ty := 3) (d := some 13) (g := none) (by kernel_rfl) (by kernel_rfl) (by kernel_rfl) (Tells.load_box (i := 0) (b := b2) (o := 0) (agg := false) (by rfl) ag3 (by kernel_rfl) (fun _ => rfl) (Nat.le_of_ble_eq_true rfl) (v := .int .i64 a1.f0) (by kernel_rfl)) ?_
    refine WL.restQ 4 [4] (L' := [(4, .bool (decide (a0.f0 < a1.f0)))]) (by kernel_rfl) ?_
    refine WP.dropAt 1 ?_
    refine WP.dropAt 0 ?_
    refine WP.ret ?_
    refine QP.thenR ?_
    obtain rfl := Option.some.inj h
    exact QP.returned [4] [.bool (decide (a0.f0 < a1.f0))] _ (by kernel_rfl) (by kernel_rfl) (by kernel_rfl) (fun W hI => ⟨_, _, _, rfl, ⟨rfl, rfl, rfl⟩, hI⟩)
  · replace hc := (not_not_intro (bne_eq_false_iff_eq.1 hc))
    rw [if_neg hc] at h
    have hc3 := hc
    clear hc
    refine WP.skip ?_
    refine QP.next ?_
    refine WP.pick [2, 3] ?_
    refine WP.seqR ?_
    refine WL.pure 0 1 [3, 15] (L' := [(3, .pointer (some ⟨b2, 0, none⟩)), (15, .pointer (some ⟨b1, 1, none⟩))]) (by kernel_rfl) (by decide) ?_
    refine WL.tell (op := .load 3 (.tmp 15)) (ty := 3) (d := some 16) (g := none) (by kernel_rfl) (by kernel_rfl) (by kernel_rfl) (Tells.load_box (i := 1) (b := b1) (o := 1) (agg := false) (by rfl) ag3 (by kernel_rfl) (fun _ => rfl) (Nat.le_of_ble_eq_true rfl) (v := .int .i64 a0.f1) (by kernel_rfl)) ?_
    refine WL.pure 2 3 [16, 17] (L' := [(16, .int .i64 a0.f1), (17, .pointer (some ⟨b2, 1, none⟩))]) (by kernel_rfl) (by decide) ?_
    refine WL.tell (op := .load 3 (.tmp 17)) (ty := 3) (d := some 18) (g := none) (by kernel_rfl) (by kernel_rfl) (by kernel_rfl) (Tells.load_box (i := 0) (b := b2) (o := 1) (agg := false) (by rfl) ag3 (by kernel_rfl) (fun _ => rfl) (Nat.le_of_ble_eq_true rfl) (v := .int .i64 a1.f1) (by kernel_rfl)) ?_
    refine WL.restQ 4 [4] (L' := [(4, .bool (decide (a0.f1 < a1.f1)))]) (by kernel_rfl) ?_
    refine WP.dropAt 1 ?_
    refine WP.dropAt 0 ?_
    refine WP.ret ?_
    obtain rfl := Option.some.inj h
    exact QP.returned [4] [.bool (decide (a0.f1 < a1.f1))] _ (by kernel_rfl) (by kernel_rfl) (by kernel_rfl) (fun W hI => ⟨_, _, _, rfl, ⟨rfl, rfl, rfl⟩, hI⟩)

/-! ### grapevine/record.Before: function 36 -/
def record_Before (a0 : T23) (a1 : T23) : Option Bool := (if ¬ a0.f0 = a1.f0 then some (decide (a0.f0 < a1.f0)) else some (decide (a0.f1 < a1.f1)))
set_option maxHeartbeats 4000000 in
theorem record_Before_calls {B : World} {G : GMap} {Γ : List Chunk} {W : World} (a0 : T23) (a1 : T23) (r : Bool) (h : record_Before a0 a1 = some r) (hI : Inv B G (Γ) W) :
    Calls Tryd.prog 36 [.agg #[.int .i64 a0.f0, .int .i64 a0.f1], .agg #[.int .i64 a1.f0, .int .i64 a1.f1]].toArray W (Ret B (fun v G' Γ' => v = .bool r ∧ G = G' ∧ Γ = Γ')) := by
  refine calls_WP (Γ := Γ) (G := G) (B := B) Tryd.func36 rfl (by kernel_rfl) ?_ hI
  clear hI
  unfold record_Before at h
  refine WP.seqR ?_
  refine WL.op (op := .box 23 (.tmp 0)) (ty := 0) (d := some 2) (g := none) (by kernel_rfl) (by kernel_rfl) (by kernel_rfl) (Does.new (o := .cells #[.int .i64 a0.f0, .int .i64 a0.f1] 23 (0, 0)) (v := fun r => .pointer (some ⟨r, 0, none⟩)) (fun r => by kernel_rfl)) ?_
  rintro _ _ _ ⟨b1, rfl, rfl, rfl⟩
  refine WL.op (op := .box 23 (.tmp 1)) (ty := 0) (d := some 3) (g := none) (by kernel_rfl) (by kernel_rfl) (by kernel_rfl) (Does.new (o := .cells #[.int .i64 a1.f0, .int .i64 a1.f1] 23 (0, 0)) (v := fun r => .pointer (some ⟨r, 0, none⟩)) (fun r => by kernel_rfl)) ?_
  rintro _ _ _ ⟨b2, rfl, rfl, rfl⟩
  refine WL.restQ 2 [2, 3] (L' := [(2, .pointer (some ⟨b1, 0, none⟩)), (3, .pointer (some ⟨b2, 0, none⟩))]) (by kernel_rfl) ?_
  refine WP.seq ?_
  refine WP.seqR ?_
  refine WL.pure 0 1 [2, 3, 5] (L' := [(2, .pointer (some ⟨b1, 0, none⟩)), (3, .pointer (some ⟨b2, 0, none⟩)), (5, .pointer (some ⟨b1, 0, none⟩))]) (by kernel_rfl) (by decide) ?_
  refine WL.tell (op := .load 3 (.tmp 5)) (ty := 3) (d := some 6) (g := none) (by kernel_rfl) (by kernel_rfl) (by kernel_rfl) (Tells.load_box (i := 1) (b := b1) (o := 0) (agg := false) (by rfl) ag3 (by kernel_rfl) (fun _ => rfl) (Nat.le_of_ble_eq_true rfl) (v := .int .i64 a0.f0) (by kernel_rfl)) ?_
  refine WL.pure 2 3 [2, 3, 6, 7] (L' := [(2, .pointer (some ⟨b1, 0, none⟩)), (3, .pointer (some ⟨b2, 0, none⟩)), (6, .int .i64 a0.f0), (7, .pointer (some ⟨b2, 0, none⟩))]) (by kernel_rfl) (by decide) ?_
  refine WL.tell (op := .load 3 (.tmp 7)) (ty := 3) (d := some 8) (g := none) (by kernel_rfl) (by kernel_rfl) (by kernel_rfl) (Tells.load_box (i := 0) (b := b2) (o := 0) (agg := false) (by rfl) ag3 (by kernel_rfl) (fun _ => rfl) (Nat.le_of_ble_eq_true rfl) (v := .int .i64 a1.f0) (by kernel_rfl)) ?_
  refine WL.restQ 4 [2, 3, 9] (L' := [(2, .pointer (some ⟨b1, 0, none⟩)), (3, .pointer (some ⟨b2, 0, none⟩)), (9, .bool (a0.f0 != a1.f0))]) (by kernel_rfl) ?_
  refine WP.cond (b := (a0.f0 != a1.f0)) (by kernel_rfl) (fun hc => ?_) (fun hc => ?_)
  · replace hc := (bne_iff_ne.1 hc)
    rw [if_pos hc] at h
    have hc3 := hc
    clear hc
    refine WP.seqR ?_
    refine WL.pure 0 1 [3, 10] (L' := [(3, .pointer (some ⟨b2, 0, none⟩)), (10, .pointer (some ⟨b1, 0, none⟩))]) (by kernel_rfl) (by decide) ?_
    refine WL.tell (op := .load 3 (.tmp 10)) (ty := 3) (d := some 11) (g := none) (by kernel_rfl) (by kernel_rfl) (by kernel_rfl) (Tells.load_box (i := 1) (b := b1) (o := 0) (agg := false) (by rfl) ag3 (by kernel_rfl) (fun _ => rfl) (Nat.le_of_ble_eq_true rfl) (v := .int .i64 a0.f0) (by kernel_rfl)) ?_
    refine WL.pure 2 3 [11, 12] (L' := [(11, .int .i64 a0.f0), (12, .pointer (some ⟨b2, 0, none⟩))]) (by kernel_rfl) (by decide) ?_
    refine WL.tell (op := .load 3 (.tmp 12)) (ty := 3) (d := some 13) (g := none) (by kernel_rfl) (by kernel_rfl) (by kernel_rfl) (Tells.load_box (i := 0) (b := b2) (o := 0) (agg := false) (by rfl) ag3 (by kernel_rfl) (fun _ => rfl) (Nat.le_of_ble_eq_true rfl) (v := .int .i64 a1.f0) (by kernel_rfl)) ?_
    refine WL.restQ 4 [4] (L' := [(4, .bool (decide (a0.f0 < a1.f0)))]) (by kernel_rfl) ?_
    refine WP.dropAt 1 ?_
    refine WP.dropAt 0 ?_
    refine WP.ret ?_
    refine QP.thenR ?_
    obtain rfl := Option.some.inj h
    exact QP.returned [4] [.bool (decide (a0.f0 < a1.f0))] _ (by kernel_rfl) (by kernel_rfl) (by kernel_rfl) (fun W hI => ⟨_, _, _, rfl, ⟨rfl, rfl, rfl⟩, hI⟩)
  · replace hc := (not_not_intro (bne_eq_false_iff_eq.1 hc))
    rw [if_neg hc] at h
    have hc3 := hc
    clear hc
    refine WP.skip ?_
    refine QP.next ?_
    refine WP.pick [2, 3] ?_
    refine WP.seqR ?_
    refine WL.pure 0 1 [3, 15] (L' := [(3, .pointer (some ⟨b2, 0, none⟩)), (15, .pointer (some ⟨b1, 1, none⟩))]) (by kernel_rfl) (by decide) ?_
    refine WL.tell (op := .load 3 (.tmp 15)) (ty := 3) (d := some 16) (g := none) (by kernel_rfl) (by kernel_rfl) (by kernel_rfl) (Tells.load_box (i := 1) (b := b1) (o := 1) (agg := false) (by rfl) ag3 (by kernel_rfl) (fun _ => rfl) (Nat.le_of_ble_eq_true rfl) (v := .int .i64 a0.f1) (by kernel_rfl)) ?_
    refine WL.pure 2 3 [16, 17] (L' := [(16, .int .i64 a0.f1), (17, .pointer (some ⟨b2, 1, none⟩))]) (by kernel_rfl) (by decide) ?_
    refine WL.tell (op := .load 3 (.tmp 17)) (ty := 3) (d := some 18) (g := none) (by kernel_rfl) (by kernel_rfl) (by kernel_rfl) (Tells.load_box (i := 0) (b := b2) (o := 1) (agg := false) (by rfl) ag3 (by kernel_rfl) (fun _ => rfl) (Nat.le_of_ble_eq_true rfl) (v := .int .i64 a1.f1) (by kernel_rfl)) ?_
    refine WL.restQ 4 [4] (L' := [(4, .bool (decide (a0.f1 < a1.f1)))]) (by kernel_rfl) ?_
    refine WP.dropAt 1 ?_
    refine WP.dropAt 0 ?_
    refine WP.ret ?_
    obtain rfl := Option.some.inj h
    exact QP.returned [4] [.bool (decide (a0.f1 < a1.f1))] _ (by kernel_rfl) (by kernel_rfl) (by kernel_rfl) (fun W hI => ⟨_, _, _, rfl, ⟨rfl, rfl, rfl⟩, hI⟩)

/-! ### grapevine/record.Less: function 34 -/
def record_Less (a0 : T27) (a1 : T27) : Option Bool := (if ¬ (⟨a0.f2, a0.f3⟩ : T25) = (⟨a1.f2, a1.f3⟩ : T25) then ((stamp_Less (⟨a0.f2, a0.f3⟩ : T25) (⟨a1.f2, a1.f3⟩ : T25)).bind fun t4 => some t4) else ((record_Before (⟨a0.f0, a0.f1⟩ : T23) (⟨a1.f0, a1.f1⟩ : T23)).bind fun t8 => some t8))
set_option maxHeartbeats 4000000 in
theorem record_Less_calls {B : World} {G : GMap} {Γ : List Chunk} {W : World} (a0 : T27) (a1 : T27) (r : Bool) (h : record_Less a0 a1 = some r) (hI : Inv B G (Γ) W) :
    Calls Tryd.prog 34 [.agg #[.int .i64 a0.f0, .int .i64 a0.f1, .int .i64 a0.f2, .int .i64 a0.f3, .string a0.f4], .agg #[.int .i64 a1.f0, .int .i64 a1.f1, .int .i64 a1.f2, .int .i64 a1.f3, .string a1.f4]].toArray W (Ret B (fun v G' Γ' => v = .bool r ∧ G = G' ∧ Γ = Γ')) := by
  refine calls_WP (Γ := Γ) (G := G) (B := B) Tryd.func34 rfl (by kernel_rfl) ?_ hI
  clear hI
  unfold record_Less at h
  refine WP.seqR ?_
  refine WL.op (op := .box 27 (.tmp 0)) (ty := 0) (d := some 2) (g := none) (by kernel_rfl) (by kernel_rfl) (by kernel_rfl) (Does.new (o := .cells #[.int .i64 a0.f0, .int .i64 a0.f1, .int .i64 a0.f2, .int .i64 a0.f3, .string a0.f4] 27 (0, 0)) (v := fun r => .pointer (some ⟨r, 0, none⟩)) (fun r => by kernel_rfl)) ?_
  rintro _ _ _ ⟨b1, rfl, rfl, rfl⟩
  refine WL.op (op := .box 27 (.tmp 1)) (ty := 0) (d := some 3) (g := none) (by kernel_rfl) (by kernel_rfl) (by kernel_rfl) (Does.new (o := .cells #[.int .i64 a1.f0, .int .i64 a1.f1, .int .i64 a1.f2, .int .i64 a1.f3, .string a1.f4] 27 (0, 0)) (v := fun r => .pointer (some ⟨r, 0, none⟩)) (fun r => by kernel_rfl)) ?_
  rintro _ _ _ ⟨b2, rfl, rfl, rfl⟩
  refine WL.restQ 2 [2, 3] (L' := [(2, .pointer (some ⟨b1, 0, none⟩)), (3, .pointer (some ⟨b2, 0, none⟩))]) (by kernel_rfl) ?_
  refine WP.seq ?_
  refine WP.seqR ?_
  refine WL.pure 0 1 [2, 3, 5] (L' := [(2, .pointer (some ⟨b1, 0, none⟩)), (3, .pointer (some ⟨b2, 0, none⟩)), (5, .pointer (some ⟨b1, 2, none⟩))]) (by kernel_rfl) (by decide) ?_
  refine WL.tell (op := .load 25 (.tmp 5)) (ty := 25) (d := some 6) (g := none) (by kernel_rfl) (by kernel_rfl) (by kernel_rfl) (Tells.load_box (i := 1) (b := b1) (o := 2) (agg := true) (by rfl) ag25 (by kernel_rfl) (fun h => by cases h) (Nat.le_of_ble_eq_true rfl) (v := .agg #[.int .i64 a0.f2, .int .i64 a0.f3]) (by kernel_rfl)) ?_
  refine WL.pure 2 3 [2, 3, 6, 7] (L' := [(2, .pointer (some ⟨b1, 0, none⟩)), (3, .pointer (some ⟨b2, 0, none⟩)), (6, .agg #[.int .i64 a0.f2, .int .i64 a0.f3]), (7, .pointer (some ⟨b2, 2, none⟩))]) (by kernel_rfl) (by decide) ?_
  refine WL.tell (op := .load 25 (.tmp 7)) (ty := 25) (d := some 8) (g := none) (by kernel_rfl) (by kernel_rfl) (by kernel_rfl) (Tells.load_box (i := 0) (b := b2) (o := 2) (agg := true) (by rfl) ag25 (by kernel_rfl) (fun h => by cases h) (Nat.le_of_ble_eq_true rfl) (v := .agg #[.int .i64 a1.f2, .int .i64 a1.f3]) (by kernel_rfl)) ?_
  refine WL.tell (op := .binOp .neq 25 (.tmp 6) (.tmp 8) 25) (ty := 4) (d := some 9) (g := none) (by kernel_rfl) (by kernel_rfl) (by kernel_rfl) (Tells.neAgg (xs := #[.int .i64 a0.f2, .int .i64 a0.f3]) (ys := #[.int .i64 a1.f2, .int .i64 a1.f3]) (ls := [.int a0.f2 a1.f2, .int a0.f3 a1.f3]) (by kernel_rfl) (by kernel_rfl) (by kernel_rfl) eg25) ?_
  refine WL.reput 9 (v := .bool (!([.int a0.f2 a1.f2, .int a0.f3 a1.f3].all Lf.ok))) (v' := .bool (!decide ((⟨a0.f2, a0.f3⟩ : T25) = (⟨a1.f2, a1.f3⟩ : T25)))) (by kernel_rfl) (by exact (congrArg (fun z => Value.bool (!z)) (eqT25 (⟨a0.f2, a0.f3⟩ : T25) (⟨a1.f2, a1.f3⟩ : T25)))) ?_
  refine WL.restQ 5 [2, 3, 9] (L' := [(2, .pointer (some ⟨b1, 0, none⟩)), (3, .pointer (some ⟨b2, 0, none⟩)), (9, .bool (!decide ((⟨a0.f2, a0.f3⟩ : T25) = (⟨a1.f2, a1.f3⟩ : T25))))]) (by kernel_rfl) ?_
  refine WP.cond (b := (!decide ((⟨a0.f2, a0.f3⟩ : T25) = (⟨a1.f2, a1.f3⟩ : T25)))) (by kernel_rfl) (fun hc => ?_) (fun hc => ?_)
  · replace hc := (nd_true hc)
    rw [if_pos hc] at h
    have hc3 := hc
    clear hc
    refine WP.seqR ?_
    refine WL.pure 0 1 [3, 10] (L' := [(3, .pointer (some ⟨b2, 0, none⟩)), (10, .pointer (some ⟨b1, 2, none⟩))]) (by kernel_rfl) (by decide) ?_
    refine WL.tell (op := .load 25 (.tmp 10)) (ty := 25) (d := some 11) (g := none) (by kernel_rfl) (by kernel_rfl) (by kernel_rfl) (Tells.load_box (i := 1) (b := b1) (o := 2) (agg := true) (by rfl) ag25 (by kernel_rfl) (fun h => by cases h) (Nat.le_of_ble_eq_true rfl) (v := .agg #[.int .i64 a0.f2, .int .i64 a0.f3]) (by kernel_rfl)) ?_
    refine WL.pure 2 3 [11, 12] (L' := [(11, .agg #[.int .i64 a0.f2, .int .i64 a0.f3]), (12, .pointer (some ⟨b2, 2, none⟩))]) (by kernel_rfl) (by decide) ?_
    refine WL.tell (op := .load 25 (.tmp 12)) (ty := 25) (d := some 13) (g := none) (by kernel_rfl) (by kernel_rfl) (by kernel_rfl) (Tells.load_box (i := 0) (b := b2) (o := 2) (agg := true) (by rfl) ag25 (by kernel_rfl) (fun h => by cases h) (Nat.le_of_ble_eq_true rfl) (v := .agg #[.int .i64 a1.f2, .int .i64 a1.f3]) (by kernel_rfl)) ?_
    rw [Option.bind_eq_some_iff] at h
    obtain ⟨t4, ht5, h⟩ := h
    refine WL.op (op := .call { callee := (.value (.func 62)), args := #[(.tmp 11), (.tmp 13)], argTypes := #[25, 25] }) (ty := 4) (d := some 14) (g := none) (by kernel_rfl) (by kernel_rfl) (by kernel_rfl) (Does.call (f := 62) (args := [.agg #[.int .i64 a0.f2, .int .i64 a0.f3], .agg #[.int .i64 a1.f2, .int .i64 a1.f3]]) (by kernel_rfl) (fun W hI => (stamp_Less_calls (⟨a0.f2, a0.f3⟩ : T25) (⟨a1.f2, a1.f3⟩ : T25)  t4 ht5 hI))) ?_
    rintro _ _ _ ⟨rfl, rfl, rfl⟩
    refine WL.restQ 5 [4] (L' := [(4, .bool t4)]) (by kernel_rfl) ?_
    refine WP.dropAt 1 ?_
    refine WP.dropAt 0 ?_
    refine WP.ret ?_
    refine QP.thenR ?_
    obtain rfl := Option.some.inj h
    exact QP.returned [4] [.bool t4] _ (by kernel_rfl) (by kernel_rfl) (by kernel_rfl) (fun W hI => ⟨_, _, _, rfl, ⟨rfl, rfl, rfl⟩, hI⟩)
  · replace hc := (nd_false hc)
    rw [if_neg hc] at h
    have hc3 := hc
    clear hc
    refine WP.skip ?_
    refine QP.next ?_
    refine WP.pick [2, 3] ?_
    refine WP.seqR ?_
    refine WL.pure 0 1 [3, 15] (L' := [(3, .pointer (some ⟨b2, 0, none⟩)), (15, .pointer (some ⟨b1, 0, none⟩))]) (by kernel_rfl) (by decide) ?_
    refine WL.tell (op := .load 23 (.tmp 15)) (ty := 23) (d := some 16) (g := none) (by kernel_rfl) (by kernel_rfl) (by kernel_rfl) (Tells.load_box (i := 1) (b := b1) (o := 0) (agg := true) (by rfl) ag23 (by kernel_rfl) (fun h => by cases h) (Nat.le_of_ble_eq_true rfl) (v := .agg #[.int .i64 a0.f0, .int .i64 a0.f1]) (by kernel_rfl)) ?_
    refine WL.pure 2 3 [16, 17] (L' := [(16, .agg #[.int .i64 a0.f0, .int .i64 a0.f1]), (17, .pointer (some ⟨b2, 0, none⟩))]) (by kernel_rfl) (by decide) ?_
    refine WL.tell (op := .load 23 (.tmp 17)) (ty := 23) (d := some 18) (g := none) (by kernel_rfl) (by kernel_rfl) (by kernel_rfl) (Tells.load_box (i := 0) (b := b2) (o := 0) (agg := true) (by rfl) ag23 (by kernel_rfl) (fun h => by cases h) (Nat.le_of_ble_eq_true rfl) (v := .agg #[.int .i64 a1.f0, .int .i64 a1.f1]) (by kernel_rfl)) ?_
    rw [Option.bind_eq_some_iff] at h
    obtain ⟨t8, ht9, h⟩ := h
    refine WL.op (op := .call { callee := (.value (.func 36)), args := #[(.tmp 16), (.tmp 18)], argTypes := #[23, 23] }) (ty := 4) (d := some 19) (g := none) (by kernel_rfl) (by kernel_rfl) (by kernel_rfl) (Does.call (f := 36) (args := [.agg #[.int .i64 a0.f0, .int .i64 a0.f1], .agg #[.int .i64 a1.f0, .int .i64 a1.f1]]) (by kernel_rfl) (fun W hI => (record_Before_calls (⟨a0.f0, a0.f1⟩ : T23) (⟨a1.f0, a1.f1⟩ : T23)  t8 ht9 hI))) ?_
    rintro _ _ _ ⟨rfl, rfl, rfl⟩
    refine WL.restQ 5 [4] (L' := [(4, .bool t8)]) (by kernel_rfl) ?_
    refine WP.dropAt 1 ?_
    refine WP.dropAt 0 ?_
    refine WP.ret ?_
    obtain rfl := Option.some.inj h
    exact QP.returned [4] [.bool t8] _ (by kernel_rfl) (by kernel_rfl) (by kernel_rfl) (fun W hI => ⟨_, _, _, rfl, ⟨rfl, rfl, rfl⟩, hI⟩)

/-! ### grapevine/grapevinelaw4.awake: function 13 -/
def grapevinelaw4_awake (k : Nat) : Option Bool := ((grapevinelaw4_one ).bind fun t1 => ((record_Lay k t1).bind fun t5 => (if ([9] : List Int).length + t5.1.length ≤ 1073741824 then ((record_Read k (([9] : List Int) ++ t5.1) 1).bind fun t14 => (((grapevinelaw0_SameBytes k t5.1 ([0, 0, 1, 0, 0, 0, 0, 0, 7, 0, 0, 1, 97] : List Int)).bind fun t25 => (if t25 = true then (if t5.2 = 0 then ((grapevinelaw4_one ).bind fun t33 => (if t14.1 = t33 then (if t14.2.1 = 14 then (if t14.2.2 = true then ((grapevinelaw4_one ).bind fun t40 => ((record_May t40).bind fun t44 => (if t44 = true then ((grapevinelaw4_one ).bind fun t49 => ((grapevinelaw4_one ).bind fun t53 => ((record_Same t49 t53).bind fun t57 => (if t57 = true then ((grapevinelaw4_one ).bind fun t62 => ((grapevinelaw4_one ).bind fun t66 => ((record_Less t62 t66).bind fun t70 => some (!t70)))) else some false)))) else some false))) else some false) else some false) else some false)) else some false) else some false)).bind fun s20 => some s20)) else none)))
set_option maxHeartbeats 4000000 in
theorem grapevinelaw4_awake_calls {B : World} {G : GMap} {Γ : List Chunk} {W : World} (HT : Tabs B G) (k : Nat) (r : Bool) (h : grapevinelaw4_awake k  = some r) (hI : Inv B G (Γ) W) :
    Calls Tryd.prog 13 [].toArray W (Ret B (fun v G' Γ' => v = .bool r ∧ G = G' ∧ Γ = Γ')) := by
  refine calls_WP (Γ := Γ) (G := G) (B := B) Tryd.func13 rfl (by kernel_rfl) ?_ hI
  clear hI
  unfold grapevinelaw4_awake at h
  refine WP.seqP [] (L' := []) (by kernel_rfl) ?_
  refine WP.seqR ?_
  rw [Option.bind_eq_some_iff] at h
  obtain ⟨t1, ht2, h⟩ := h
  refine WL.op (op := .call { callee := (.value (.func 51)), args := #[], argTypes := #[] }) (ty := 27) (d := some 7) (g := none) (by kernel_rfl) (by kernel_rfl) (by kernel_rfl) (Does.call (f := 51) (args := []) (by kernel_rfl) (fun W hI => (grapevinelaw4_one_calls   t1 ht2 hI))) ?_
  rintro _ _ _ ⟨rfl, rfl, rfl⟩
  rw [Option.bind_eq_some_iff] at h
  obtain ⟨t5, ht6, h⟩ := h
  refine WL.op (op := .call { callee := (.value (.func 14)), args := #[(.tmp 7)], argTypes := #[27] }) (ty := 31) (d := some 8) (g := none) (by kernel_rfl) (by kernel_rfl) (by kernel_rfl) (Does.call (f := 14) (args := [.agg #[.int .i64 t1.f0, .int .i64 t1.f1, .int .i64 t1.f2, .int .i64 t1.f3, .string t1.f4]]) (by kernel_rfl) (fun W hI => (record_Lay_calls HT k t1  t5 ht6 hI))) ?_
  rintro _ _ _ ⟨AR70, cR70, CR70, rfl, HR70, rfl, rfl⟩
  refine WL.restQ 2 [1, 2] (L' := [(1, .slice AR70 t5.1.length cR70), (2, .int .i64 t5.2)]) (by kernel_rfl) ?_
  refine WP.seqR ?_
  refine WL.op (op := .buildSlice 29 1 #[(0, (.const (.int .u8 9)))]) (ty := 29) (d := some 12) (g := none) (by kernel_rfl) (by kernel_rfl) (by kernel_rfl) (Does.new (o := .cells #[.int .u8 9] 5 (0, 0)) (v := fun r => .slice (some ⟨r, 0, none⟩) 1 1) (fun r => by kernel_rfl)) ?_
  rintro _ _ _ ⟨b9, rfl, rfl, rfl⟩
  have Ho11 : Ow (kInt .u8) G (some ⟨b9, 0, none⟩) 1 ([9] : List Int) [(b9, .cells #[.int .u8 9] 5 (0, 0))] := Ow.lit (kd := (kInt .u8)) (G := G) (b := b9) (T := 5) (xs := ([9] : List Int)) (cs := [.int .u8 9]) (.cons (x := 9) (cs := [.int .u8 9]) (by exact rfl) .nil)
  refine WL.pure 1 2 [1, 2, 12, 13] (L' := [(1, .slice AR70 t5.1.length cR70), (2, .int .i64 t5.2), (12, .slice (some ⟨b9, 0, none⟩) ([9] : List Int).length 1), (13, .slice AR70 t5.1.length cR70)]) (by kernel_rfl) (by decide) ?_
  by_cases hb12 : ([9] : List Int).length + t5.1.length ≤ 1073741824
  case neg => rw [if_neg hb12] at h; cases h
  rw [if_pos hb12] at h
  refine WL.op (op := .call { callee := (.builtin .append), args := #[(.tmp 12), (.tmp 13)], argTypes := #[29, 29] }) (ty := 29) (d := some 14) (g := none) (by kernel_rfl) (by kernel_rfl) (by kernel_rfl) (Ow.append (ys := t5.1) (v := .slice AR70 t5.1.length cR70) Ho11 (i := 0) rfl (by kernel_rfl) (by kernel_rfl) (HR70.src (i := 1) rfl) sl29 ze5 nt29 (by decide) hb12) ?_
  rintro _ _ _ ⟨rfl, AN13, cN13, CN13, rfl, HN13, rfl⟩
  rw [Option.bind_eq_some_iff] at h
  obtain ⟨t14, ht15, h⟩ := h
  refine WL.op (op := .call { callee := (.value (.func 20)), args := #[(.tmp 14), (.const (.int .i64 1))], argTypes := #[29, 3] }) (ty := 40) (d := some 15) (g := none) (by kernel_rfl) (by kernel_rfl) (by kernel_rfl) (Does.call (Φ := fun v' G' Γ' => v' = .tuple #[.agg #[.int .i64 t14.1.f0, .int .i64 t14.1.f1, .int .i64 t14.1.f2, .int .i64 t14.1.f3, .string t14.1.f4], .int .i64 t14.2.1, .bool t14.2.2] ∧ G = G' ∧ CN13 :: CR70 :: Γ = Γ') (f := 20) (args := [.slice AN13 (([9] : List Int) ++ t5.1).length cN13, .int .i64 1]) (by kernel_rfl) (fun W hI => (Calls.lendN (Φ := fun v' N => v' = .tuple #[.agg #[.int .i64 t14.1.f0, .int .i64 t14.1.f1, .int .i64 t14.1.f2, .int .i64 t14.1.f3, .string t14.1.f4], .int .i64 t14.2.1, .bool t14.2.2] ∧ N = []) (H := []) (i := 0) rfl hI (fun _ e l18 nl18 hI => by subst e; exact (((record_Read_calls (HT.mono l18) k (([9] : List Int) ++ t5.1) 1 AN13 cN13 (HN13.rdN l18 nl18) t14 ht15 hI)).mono fun _ _ hr => by obtain ⟨_, _, _, rfl, hd, hI⟩ := hr; obtain ⟨rfl, rfl, rfl⟩ := hd; exact ⟨_, _, _, rfl, ⟨[], ⟨rfl, rfl⟩, rfl, rfl⟩, hI⟩))).mono fun _ _ hr => by obtain ⟨_, _, _, rfl, ⟨_, hd, rfl, rfl⟩, hI⟩ := hr; obtain ⟨rfl, rfl⟩ := hd; exact ⟨_, _, _, rfl, ⟨rfl, rfl, rfl⟩, hI⟩)) ?_
  rintro _ _ _ ⟨rfl, rfl, rfl⟩
  refine WL.pure 4 8 [1, 2, 16, 17, 18] (L' := [(1, .slice AR70 t5.1.length cR70), (2, .int .i64 t5.2), (16, .agg #[.int .i64 t14.1.f0, .int .i64 t14.1.f1, .int .i64 t14.1.f2, .int .i64 t14.1.f3, .string t14.1.f4]), (17, .int .i64 t14.2.1), (18, .bool t14.2.2)]) (by kernel_rfl) (by decide) ?_
  refine WL.op (op := .alloc 27) (ty := 0) (d := some 3) (g := none) (by kernel_rfl) (by kernel_rfl) (by kernel_rfl) (Does.new (o := .cells #[.int .i64 0, .int .i64 0, .int .i64 0, .int .i64 0, .string (⟨#[]⟩ : ByteArray)] 27 (0, 0)) (v := fun r => .pointer (some ⟨r, 0, none⟩)) (fun r => by kernel_rfl)) ?_
  rintro _ _ _ ⟨b19, rfl, rfl, rfl⟩
  refine WL.op (op := .store 27 (.tmp 3) (.tmp 16)) (ty := 0) (d := none) (g := none) (by kernel_rfl) (by kernel_rfl) (by kernel_rfl) (Does.store_box (i := 0) (b := b19) (o := 0) (v := .agg #[.int .i64 t14.1.f0, .int .i64 t14.1.f1, .int .i64 t14.1.f2, .int .i64 t14.1.f3, .string t14.1.f4]) (by rfl) sz27 (by kernel_rfl) (by kernel_rfl) (by kernel_rfl) (Free.zero _) (Nat.le_of_ble_eq_true rfl) (cells' := #[.int .i64 t14.1.f0, .int .i64 t14.1.f1, .int .i64 t14.1.f2, .int .i64 t14.1.f3, .string t14.1.f4]) (by kernel_rfl)) ?_
  rintro _ _ _ ⟨rfl, rfl, rfl⟩
  refine WL.restQ 10 [1, 2, 3, 4, 5] (L' := [(1, .slice AR70 t5.1.length cR70), (2, .int .i64 t5.2), (3, .pointer (some ⟨b19, 0, none⟩)), (4, .int .i64 t14.2.1), (5, .bool t14.2.2)]) (by kernel_rfl) ?_
  refine WP.dropAt 1 ?_
  rw [Option.bind_eq_some_iff] at h
  obtain ⟨os20, h, hk21⟩ := h
  refine WP.cut (fun L' G' Γ' => ∃ s20 : Bool, s20 = os20 ∧ L' = [(0, .bool s20)] ∧ G = G' ∧ Γ = Γ') ?_ ?_
  · clear hk21
    skip
    refine WP.any (N := 35) (S := [⟨some 19, [1], []⟩, ⟨some 20, [], []⟩, ⟨some 21, [19, 20], [0, 1]⟩, ⟨some 22, [21], [2]⟩, ⟨some 23, [2, 22], [3]⟩, ⟨some 24, [22, 23], [3, 4]⟩, ⟨some 25, [22, 24], [3, 5]⟩, ⟨some 26, [25], [3, 6]⟩, ⟨some 27, [3, 26], [7]⟩, ⟨some 28, [26], [7]⟩, ⟨some 29, [26, 27, 28], [7, 8, 9]⟩, ⟨some 30, [26, 29], [7, 10]⟩, ⟨some 31, [30], [9, 11]⟩, ⟨some 32, [4, 31], [12]⟩, ⟨some 33, [31, 32], [12, 13]⟩, ⟨some 34, [31, 33], [12, 14]⟩, ⟨some 35, [34], [12, 15]⟩, ⟨some 36, [5, 35], [16]⟩, ⟨some 37, [35, 36], [16, 17]⟩, ⟨some 38, [37], [16, 18]⟩, ⟨some 39, [38], [19]⟩, ⟨some 40, [38, 39], [19, 20]⟩, ⟨some 41, [38, 40], [19, 21]⟩, ⟨some 42, [41], [21, 22]⟩, ⟨some 43, [42], [23]⟩, ⟨some 44, [42], [23, 24]⟩, ⟨some 45, [42, 43, 44], [23, 24, 25]⟩, ⟨some 46, [42, 45], [23, 26]⟩, ⟨some 47, [46], [26, 27]⟩, ⟨some 48, [47], [28]⟩, ⟨some 49, [47], [28, 29]⟩, ⟨some 50, [47, 48, 49], [28, 29, 30]⟩, ⟨some 51, [47, 50], [28, 31]⟩, ⟨some 52, [47, 51], [28, 32]⟩, ⟨some 0, [52], [0, 1, 2, 3, 4, 5, 6, 7, 8, 9, 10, 11, 12, 13, 14, 15, 16, 17, 18, 19, 20, 21, 22, 23, 24, 25, 26, 27, 28, 29, 30, 31, 32, 33]⟩]) (kw := 35) (G0 := G) (Γ0 := [(b19, .cells #[.int .i64 t14.1.f0, .int .i64 t14.1.f1, .int .i64 t14.1.f2, .int .i64 t14.1.f3, .string t14.1.f4] 27 (0, 0))] :: CR70 :: Γ) mo (by kernel_rfl) (fun hS => ?_)
    refine WA.pure [0] [2, 3, 4, 5, 19] (m := 34) (b' := 1) (L' := [(2, .int .i64 t5.2), (3, .pointer (some ⟨b19, 0, none⟩)), (4, .int .i64 t14.2.1), (5, .bool t14.2.2), (19, .slice AR70 t5.1.length cR70)]) (by kernel_rfl) (NoPanic.then (NoPanic.body)) Under.refl hS (by kernel_rfl) ?_
    refine WA.op (i := 1) (m := 33) (b' := 3) (by kernel_rfl) hS (by kernel_rfl) (op := .buildSlice 29 13 #[(0, (.const (.int .u8 0))), (1, (.const (.int .u8 0))), (2, (.const (.int .u8 1))), (3, (.const (.int .u8 0))), (4, (.const (.int .u8 0))), (5, (.const (.int .u8 0))), (6, (.const (.int .u8 0))), (7, (.const (.int .u8 0))), (8, (.const (.int .u8 7))), (9, (.const (.int .u8 0))), (10, (.const (.int .u8 0))), (11, (.const (.int .u8 1))), (12, (.const (.int .u8 97)))]) (ty := 29) (d := some 20) (g := none) (by kernel_rfl) (by kernel_rfl) (by kernel_rfl) (Does.new (o := .cells #[.int .u8 0, .int .u8 0, .int .u8 1, .int .u8 0, .int .u8 0, .int .u8 0, .int .u8 0, .int .u8 0, .int .u8 7, .int .u8 0, .int .u8 0, .int .u8 1, .int .u8 97] 5 (0, 0)) (v := fun r => .slice (some ⟨r, 0, none⟩) 13 13) (fun r => by kernel_rfl)) ?_
    rintro _ _ _ ⟨b22, rfl, rfl, rfl⟩
    refine ⟨_, _, Under.cons Under.refl, Under.refl, ?_⟩
    have Ho24 : Ow (kInt .u8) G (some ⟨b22, 0, none⟩) 13 ([0, 0, 1, 0, 0, 0, 0, 0, 7, 0, 0, 1, 97] : List Int) [(b22, .cells #[.int .u8 0, .int .u8 0, .int .u8 1, .int .u8 0, .int .u8 0, .int .u8 0, .int .u8 0, .int .u8 0, .int .u8 7, .int .u8 0, .int .u8 0, .int .u8 1, .int .u8 97] 5 (0, 0))] := Ow.lit (kd := (kInt .u8)) (G := G) (b := b22) (T := 5) (xs := ([0, 0, 1, 0, 0, 0, 0, 0, 7, 0, 0, 1, 97] : List Int)) (cs := [.int .u8 0, .int .u8 0, .int .u8 1, .int .u8 0, .int .u8 0, .int .u8 0, .int .u8 0, .int .u8 0, .int .u8 7, .int .u8 0, .int .u8 0, .int .u8 1, .int .u8 97]) (.cons (x := 0) (cs := [.int .u8 0]) (by exact rfl) (.cons (x := 0) (cs := [.int .u8 0]) (by exact rfl) (.cons (x := 1) (cs := [.int .u8 1]) (by exact rfl) (.cons (x := 0) (cs := [.int .u8 0]) (by exact rfl) (.cons (x := 0) (cs := [.int .u8 0]) (by exact rfl) (.cons (x := 0) (cs := [.int .u8 0]) (by exact rfl) (.cons (x := 0) (cs := [.int .u8 0]) (by exact rfl) (.cons (x := 0) (cs := [.int .u8 0]) (by exact rfl) (.cons (x := 7) (cs := [.int .u8 7]) (by exact rfl) (.cons (x := 0) (cs := [.int .u8 0]) (by exact rfl) (.cons (x := 0) (cs := [.int .u8 0]) (by exact rfl) (.cons (x := 1) (cs := [.int .u8 1]) (by exact rfl) (.cons (x := 97) (cs := [.int .u8 97]) (by exact rfl) .nil)))))))))))))
    rw [Option.bind_eq_some_iff] at h
    obtain ⟨t25, ht26, h⟩ := h
    refine WA.op (i := 2) (m := 32) (b' := 7) (by kernel_rfl) hS (by kernel_rfl) (op := .call { callee := (.value (.func 16)), args := #[(.tmp 19), (.tmp 20)], argTypes := #[29, 29] }) (ty := 4) (d := some 21) (g := none) (by kernel_rfl) (by kernel_rfl) (by kernel_rfl) (Does.call (Φ := fun v' G' Γ' => v' = .bool t25 ∧ G = G' ∧ [(b22, .cells #[.int .u8 0, .int .u8 0, .int .u8 1, .int .u8 0, .int .u8 0, .int .u8 0, .int .u8 0, .int .u8 0, .int .u8 7, .int .u8 0, .int .u8 0, .int .u8 1, .int .u8 97] 5 (0, 0))] :: [(b19, .cells #[.int .i64 t14.1.f0, .int .i64 t14.1.f1, .int .i64 t14.1.f2, .int .i64 t14.1.f3, .string t14.1.f4] 27 (0, 0))] :: CR70 :: Γ = Γ') (f := 16) (args := [.slice AR70 t5.1.length cR70, .slice (some ⟨b22, 0, none⟩) ([0, 0, 1, 0, 0, 0, 0, 0, 7, 0, 0, 1, 97] : List Int).length 13]) (by kernel_rfl) (fun W hI => (Calls.lendN (Φ := fun v' N => v' = .bool t25 ∧ N = []) (H := []) (i := 2) rfl hI (fun _ e l29 nl29 hI => by subst e; exact Calls.lendN (Φ := fun v' N => v' = .bool t25 ∧ N = []) (H := []) (i := 0) rfl hI (fun _ e l30 nl30 hI => by subst e; exact (((grapevinelaw0_SameBytes_calls k t5.1 ([0, 0, 1, 0, 0, 0, 0, 0, 7, 0, 0, 1, 97] : List Int) AR70 cR70 ((HR70.rdN l29 nl29).mono l30) (some ⟨b22, 0, none⟩) 13 ((Ho24.mono l29).rdN l30 nl30) t25 ht26 hI)).mono fun _ _ hr => by obtain ⟨_, _, _, rfl, hd, hI⟩ := hr; obtain ⟨rfl, rfl, rfl⟩ := hd; exact ⟨_, _, _, rfl, ⟨[], ⟨rfl, rfl⟩, rfl, rfl⟩, hI⟩)))).mono fun _ _ hr => by obtain ⟨_, _, _, rfl, ⟨_, hd, rfl, rfl⟩, hI⟩ := hr; obtain ⟨rfl, rfl⟩ := hd; exact ⟨_, _, _, rfl, ⟨rfl, rfl, rfl⟩, hI⟩)) ?_
    rintro _ _ _ ⟨rfl, rfl, rfl⟩
    refine ⟨_, _, Under.refl, Under.refl, ?_⟩
    refine WA.pure [3] [2, 3, 4, 5, 22] (m := 31) (b' := 15) (L' := [(2, .int .i64 t5.2), (3, .pointer (some ⟨b19, 0, none⟩)), (4, .int .i64 t14.2.1), (5, .bool t14.2.2), (22, .bool t25)]) (by kernel_rfl) (NoPanic.then (NoPanic.body)) Under.refl hS (by kernel_rfl) ?_
    refine WA.split 22 (b := t25) (by kernel_rfl) (fun hc => ?_) (fun hc => ?_)
    · replace hc := hc
      rw [if_pos hc] at h
      have hc31 := hc
      clear hc
      refine WA.pure [4, 5, 6, 7] [3, 4, 5, 26] (m := 27) (b' := 255) (L' := [(3, .pointer (some ⟨b19, 0, none⟩)), (4, .int .i64 t14.2.1), (5, .bool t14.2.2), (26, .bool (t5.2 == 0))]) (by kernel_rfl) (NoPanic.then (NoPanic.body)) Under.refl hS (by kernel_rfl) ?_
      refine WA.split 26 (b := (t5.2 == 0)) (by kernel_rfl) (fun hc => ?_) (fun hc => ?_)
      · replace hc := eq_of_beq hc
        rw [if_pos hc] at h
        have hc32 := hc
        clear hc
        refine WA.tellD [] (i := 8) (m := 26) (b' := 511) (by kernel_rfl) (NoPanic.then (NoPanic.body)) Under.refl hS (by kernel_rfl) (op := .load 27 (.tmp 3)) (ty := 27) (d := some 27) (g := some (7, true)) (by kernel_rfl) (by kernel_rfl) (by kernel_rfl) (Tells.load_box (i := 1) (b := b19) (o := 0) (agg := true) (by rfl) ag27 (by kernel_rfl) (fun h => by cases h) (Nat.le_of_ble_eq_true rfl) (v := .agg #[.int .i64 t14.1.f0, .int .i64 t14.1.f1, .int .i64 t14.1.f2, .int .i64 t14.1.f3, .string t14.1.f4]) (by kernel_rfl)) ?_
        rw [Option.bind_eq_some_iff] at h
        obtain ⟨t33, ht34, h⟩ := h
        refine WA.op (i := 9) (m := 25) (b' := 1023) (by kernel_rfl) hS (by kernel_rfl) (op := .call { callee := (.value (.func 51)), args := #[], argTypes := #[] }) (ty := 27) (d := some 28) (g := some (7, true)) (by kernel_rfl) (by kernel_rfl) (by kernel_rfl) (Does.call (f := 51) (args := []) (by kernel_rfl) (fun W hI => (grapevinelaw4_one_calls   t33 ht34 hI))) ?_
        rintro _ _ _ ⟨rfl, rfl, rfl⟩
        refine ⟨_, _, Under.refl, Under.refl, ?_⟩
        refine WA.tellD [] (i := 10) (m := 24) (b' := 2047) (by kernel_rfl) (NoPanic.then (NoPanic.body)) Under.refl hS (by kernel_rfl) (op := .binOp .eql 27 (.tmp 27) (.tmp 28) 27) (ty := 4) (d := some 29) (g := some (7, true)) (by kernel_rfl) (by kernel_rfl) (by kernel_rfl) (Tells.eqAgg (xs := #[.int .i64 t14.1.f0, .int .i64 t14.1.f1, .int .i64 t14.1.f2, .int .i64 t14.1.f3, .string t14.1.f4]) (ys := #[.int .i64 t33.f0, .int .i64 t33.f1, .int .i64 t33.f2, .int .i64 t33.f3, .string t33.f4]) (ls := [.int t14.1.f0 t33.f0, .int t14.1.f1 t33.f1, .int t14.1.f2 t33.f2, .int t14.1.f3 t33.f3, .str t14.1.f4 t33.f4]) (by kernel_rfl) (by kernel_rfl) (by kernel_rfl) eg27) ?_
        refine WA.reput 29 (v := .bool ([.int t14.1.f0 t33.f0, .int t14.1.f1 t33.f1, .int t14.1.f2 t33.f2, .int t14.1.f3 t33.f3, .str t14.1.f4 t33.f4].all Lf.ok)) (v' := .bool (decide (t14.1 = t33))) (by kernel_rfl) (by exact (congrArg Value.bool (eqT27 t14.1 t33))) ?_
        refine WA.pure [11, 12] [4, 5, 31] (m := 22) (b' := 8191) (L' := [(4, .int .i64 t14.2.1), (5, .bool t14.2.2), (31, .bool (decide (t14.1 = t33)))]) (by kernel_rfl) (NoPanic.then (NoPanic.body)) Under.refl hS (by kernel_rfl) ?_
        refine WA.split 31 (b := decide (t14.1 = t33)) (by kernel_rfl) (fun hc => ?_) (fun hc => ?_)
        · replace hc := of_decide_eq_true hc
          rw [if_pos hc] at h
          have hc37 := hc
          clear hc
          refine WA.pure [13, 14, 15, 16] [5, 35] (m := 18) (b' := 131071) (L' := [(5, .bool t14.2.2), (35, .bool (t14.2.1 == 14))]) (by kernel_rfl) (NoPanic.then (NoPanic.body)) Under.refl hS (by kernel_rfl) ?_
          refine WA.split 35 (b := (t14.2.1 == 14)) (by kernel_rfl) (fun hc => ?_) (fun hc => ?_)
          · replace hc := eq_of_beq hc
            rw [if_pos hc] at h
            have hc38 := hc
            clear hc
            refine WA.pure [17, 18, 19] [38] (m := 15) (b' := 1048575) (L' := [(38, .bool t14.2.2)]) (by kernel_rfl) (NoPanic.then (NoPanic.body)) Under.refl hS (by kernel_rfl) ?_
            refine WA.split 38 (b := t14.2.2) (by kernel_rfl) (fun hc => ?_) (fun hc => ?_)
            · replace hc := hc
              rw [if_pos hc] at h
              have hc39 := hc
              clear hc
              rw [Option.bind_eq_some_iff] at h
              obtain ⟨t40, ht41, h⟩ := h
              refine WA.op (i := 20) (m := 14) (b' := 2097151) (by kernel_rfl) hS (by kernel_rfl) (op := .call { callee := (.value (.func 51)), args := #[], argTypes := #[] }) (ty := 27) (d := some 39) (g := some (19, true)) (by kernel_rfl) (by kernel_rfl) (by kernel_rfl) (Does.call (f := 51) (args := []) (by kernel_rfl) (fun W hI => (grapevinelaw4_one_calls   t40 ht41 hI))) ?_
              rintro _ _ _ ⟨rfl, rfl, rfl⟩
              refine ⟨_, _, Under.refl, Under.refl, ?_⟩
              rw [Option.bind_eq_some_iff] at h
              obtain ⟨t44, ht45, h⟩ := h
              refine WA.op (i := 21) (m := 13) (b' := 4194303) (by kernel_rfl) hS (by kernel_rfl) (op := .call { callee := (.value (.func 23)), args := #[(.tmp 39)], argTypes := #[27] }) (ty := 4) (d := some 40) (g := some (19, true)) (by kernel_rfl) (by kernel_rfl) (by kernel_rfl) (Does.call (f := 23) (args := [.agg #[.int .i64 t40.f0, .int .i64 t40.f1, .int .i64 t40.f2, .int .i64 t40.f3, .string t40.f4]]) (by kernel_rfl) (fun W hI => (record_May_calls HT t40  t44 ht45 hI))) ?_
              rintro _ _ _ ⟨rfl, rfl, rfl⟩
              refine ⟨_, _, Under.refl, Under.refl, ?_⟩
              refine WA.pure [22, 23] [42] (m := 11) (b' := 16777215) (L' := [(42, .bool t44)]) (by kernel_rfl) (NoPanic.then (NoPanic.body)) Under.refl hS (by kernel_rfl) ?_
              refine WA.split 42 (b := t44) (by kernel_rfl) (fun hc => ?_) (fun hc => ?_)
              · replace hc := hc
                rw [if_pos hc] at h
                have hc48 := hc
                clear hc
                rw [Option.bind_eq_some_iff] at h
                obtain ⟨t49, ht50, h⟩ := h
                refine WA.op (i := 24) (m := 10) (b' := 33554431) (by kernel_rfl) hS (by kernel_rfl) (op := .call { callee := (.value (.func 51)), args := #[], argTypes := #[] }) (ty := 27) (d := some 43) (g := some (23, true)) (by kernel_rfl) (by kernel_rfl) (by kernel_rfl) (Does.call (f := 51) (args := []) (by kernel_rfl) (fun W hI => (grapevinelaw4_one_calls   t49 ht50 hI))) ?_
                rintro _ _ _ ⟨rfl, rfl, rfl⟩
                refine ⟨_, _, Under.refl, Under.refl, ?_⟩
                rw [Option.bind_eq_some_iff] at h
                obtain ⟨t53, ht54, h⟩ := h
                refine WA.op (i := 25) (m := 9) (b' := 67108863) (by kernel_rfl) hS (by kernel_rfl) (op := .call { callee := (.value (.func 51)), args := #[], argTypes := #[] }) (ty := 27) (d := some 44) (g := some (23, true)) (by kernel_rfl) (by kernel_rfl) (by kernel_rfl) (Does.call (f := 51) (args := []) (by kernel_rfl) (fun W hI => (grapevinelaw4_one_calls   t53 ht54 hI))) ?_
                rintro _ _ _ ⟨rfl, rfl, rfl⟩
                refine ⟨_, _, Under.refl, Under.refl, ?_⟩
                rw [Option.bind_eq_some_iff] at h
                obtain ⟨t57, ht58, h⟩ := h
                refine WA.op (i := 26) (m := 8) (b' := 134217727) (by kernel_rfl) hS (by kernel_rfl) (op := .call { callee := (.value (.func 25)), args := #[(.tmp 43), (.tmp 44)], argTypes := #[27, 27] }) (ty := 4) (d := some 45) (g := some (23, true)) (by kernel_rfl) (by kernel_rfl) (by kernel_rfl) (Does.call (f := 25) (args := [.agg #[.int .i64 t49.f0, .int .i64 t49.f1, .int .i64 t49.f2, .int .i64 t49.f3, .string t49.f4], .agg #[.int .i64 t53.f0, .int .i64 t53.f1, .int .i64 t53.f2, .int .i64 t53.f3, .string t53.f4]]) (by kernel_rfl) (fun W hI => (record_Same_calls t49 t53  t57 ht58 hI))) ?_
                rintro _ _ _ ⟨rfl, rfl, rfl⟩
                refine ⟨_, _, Under.refl, Under.refl, ?_⟩
                refine WA.pure [27, 28] [47] (m := 6) (b' := 536870911) (L' := [(47, .bool t57)]) (by kernel_rfl) (NoPanic.then (NoPanic.body)) Under.refl hS (by kernel_rfl) ?_
                refine WA.split 47 (b := t57) (by kernel_rfl) (fun hc => ?_) (fun hc => ?_)
                · replace hc := hc
                  rw [if_pos hc] at h
                  have hc61 := hc
                  clear hc
                  rw [Option.bind_eq_some_iff] at h
                  obtain ⟨t62, ht63, h⟩ := h
                  refine WA.op (i := 29) (m := 5) (b' := 1073741823) (by kernel_rfl) hS (by kernel_rfl) (op := .call { callee := (.value (.func 51)), args := #[], argTypes := #[] }) (ty := 27) (d := some 48) (g := some (28, true)) (by kernel_rfl) (by kernel_rfl) (by kernel_rfl) (Does.call (f := 51) (args := []) (by kernel_rfl) (fun W hI => (grapevinelaw4_one_calls   t62 ht63 hI))) ?_
                  rintro _ _ _ ⟨rfl, rfl, rfl⟩
                  refine ⟨_, _, Under.refl, Under.refl, ?_⟩
                  rw [Option.bind_eq_some_iff] at h
                  obtain ⟨t66, ht67, h⟩ := h
                  refine WA.op (i := 30) (m := 4) (b' := 2147483647) (by kernel_rfl) hS (by kernel_rfl) (op := .call { callee := (.value (.func 51)), args := #[], argTypes := #[] }) (ty := 27) (d := some 49) (g := some (28, true)) (by kernel_rfl) (by kernel_rfl) (by kernel_rfl) (Does.call (f := 51) (args := []) (by kernel_rfl) (fun W hI => (grapevinelaw4_one_calls   t66 ht67 hI))) ?_
                  rintro _ _ _ ⟨rfl, rfl, rfl⟩
                  refine ⟨_, _, Under.refl, Under.refl, ?_⟩
                  rw [Option.bind_eq_some_iff] at h
                  obtain ⟨t70, ht71, h⟩ := h
                  refine WA.op (i := 31) (m := 3) (b' := 4294967295) (by kernel_rfl) hS (by kernel_rfl) (op := .call { callee := (.value (.func 34)), args := #[(.tmp 48), (.tmp 49)], argTypes := #[27, 27] }) (ty := 4) (d := some 50) (g := some (28, true)) (by kernel_rfl) (by kernel_rfl) (by kernel_rfl) (Does.call (f := 34) (args := [.agg #[.int .i64 t62.f0, .int .i64 t62.f1, .int .i64 t62.f2, .int .i64 t62.f3, .string t62.f4], .agg #[.int .i64 t66.f0, .int .i64 t66.f1, .int .i64 t66.f2, .int .i64 t66.f3, .string t66.f4]]) (by kernel_rfl) (fun W hI => (record_Less_calls t62 t66  t70 ht71 hI))) ?_
                  rintro _ _ _ ⟨rfl, rfl, rfl⟩
                  refine ⟨_, _, Under.refl, Under.refl, ?_⟩
                  refine WA.pure [32, 33, 34] [0] (m := 0) (b' := 34359738367) (L' := [(0, .bool (!t70))]) (by kernel_rfl) (NoPanic.then (NoPanic.body)) Under.refl hS (by kernel_rfl) ?_
                  refine WA.done hS (by kernel_rfl) ?_
                  refine QP.pick [0] ?_
                  refine QP.dropAt 2 ?_
                  refine QP.dropAt 1 ?_
                  refine QP.dropAt 0 ?_
                  refine QP.pick [0] ?_
                  exact QP.meet ⟨_, Option.some.inj h, rfl, rfl, rfl⟩
                · replace hc := (Bool.eq_false_iff.1 hc)
                  rw [if_neg hc] at h
                  have hc61 := hc
                  clear hc
                  refine WA.pure [29, 30, 31, 32, 33, 34] [0] (m := 0) (b' := 34359738367) (L' := [(0, .bool false)]) (by kernel_rfl) (NoPanic.then (NoPanic.body)) Under.refl hS (by kernel_rfl) ?_
                  refine WA.done hS (by kernel_rfl) ?_
                  refine QP.pick [0] ?_
                  refine QP.dropAt 2 ?_
                  refine QP.dropAt 1 ?_
                  refine QP.dropAt 0 ?_
                  refine QP.pick [0] ?_
                  exact QP.meet ⟨_, Option.some.inj h, rfl, rfl, rfl⟩
              · replace hc := (Bool.eq_false_iff.1 hc)
                rw [if_neg hc] at h
                have hc48 := hc
                clear hc
                refine WA.pure [24, 25, 26, 27, 28, 29, 30, 31, 32, 33, 34] [0] (m := 0) (b' := 34359738367) (L' := [(0, .bool false)]) (by kernel_rfl) (NoPanic.then (NoPanic.body)) Under.refl hS (by kernel_rfl) ?_
                refine WA.done hS (by kernel_rfl) ?_
                refine QP.pick [0] ?_
                refine QP.dropAt 2 ?_
                refine QP.dropAt 1 ?_
                refine QP.dropAt 0 ?_
                refine QP.pick [0] ?_
                exact QP.meet ⟨_, Option.some.inj h, rfl, rfl, rfl⟩
            · replace hc := (Bool.eq_false_iff.1 hc)
              rw [if_neg hc] at h
              have hc39 := hc
              clear hc
              refine WA.pure [20, 21, 22, 23, 24, 25, 26, 27, 28, 29, 30, 31, 32, 33, 34] [0] (m := 0) (b' := 34359738367) (L' := [(0, .bool false)]) (by kernel_rfl) (NoPanic.then (NoPanic.body)) Under.refl hS (by kernel_rfl) ?_
              refine WA.done hS (by kernel_rfl) ?_
              refine QP.pick [0] ?_
              refine QP.dropAt 2 ?_
              refine QP.dropAt 1 ?_
              refine QP.dropAt 0 ?_
              refine QP.pick [0] ?_
              exact QP.meet ⟨_, Option.some.inj h, rfl, rfl, rfl⟩
          · replace hc := ne_of_beq_false hc
            rw [if_neg hc] at h
            have hc38 := hc
            clear hc
            refine WA.pure [17, 18, 19, 20, 21, 22, 23, 24, 25, 26, 27, 28, 29, 30, 31, 32, 33, 34] [0] (m := 0) (b' := 34359738367) (L' := [(0, .bool false)]) (by kernel_rfl) (NoPanic.then (NoPanic.body)) Under.refl hS (by kernel_rfl) ?_
            refine WA.done hS (by kernel_rfl) ?_
            refine QP.pick [0] ?_
            refine QP.dropAt 2 ?_
            refine QP.dropAt 1 ?_
            refine QP.dropAt 0 ?_
            refine QP.pick [0] ?_
            exact QP.meet ⟨_, Option.some.inj h, rfl, rfl, rfl⟩
        · replace hc := of_decide_eq_false hc
          rw [if_neg hc] at h
          have hc37 := hc
          clear hc
          refine WA.pure [13, 14, 15, 16, 17, 18, 19, 20, 21, 22, 23, 24, 25, 26, 27, 28, 29, 30, 31, 32, 33, 34] [0] (m := 0) (b' := 34359738367) (L' := [(0, .bool false)]) (by kernel_rfl) (NoPanic.then (NoPanic.body)) Under.refl hS (by kernel_rfl) ?_
          refine WA.done hS (by kernel_rfl) ?_
          refine QP.pick [0] ?_
          refine QP.dropAt 2 ?_
          refine QP.dropAt 1 ?_
          refine QP.dropAt 0 ?_
          refine QP.pick [0] ?_
          exact QP.meet ⟨_, Option.some.inj h, rfl, rfl, rfl⟩
      · replace hc := ne_of_beq_false hc
        rw [if_neg hc] at h
        have hc32 := hc
        clear hc
        refine WA.pure [8, 9, 10, 11, 12, 13, 14, 15, 16, 17, 18, 19, 20, 21, 22, 23, 24, 25, 26, 27, 28, 29, 30, 31, 32, 33, 34] [0] (m := 0) (b' := 34359738367) (L' := [(0, .bool false)]) (by kernel_rfl) (NoPanic.then (NoPanic.body)) Under.refl hS (by kernel_rfl) ?_
        refine WA.done hS (by kernel_rfl) ?_
        refine QP.pick [0] ?_
        refine QP.dropAt 2 ?_
        refine QP.dropAt 1 ?_
        refine QP.dropAt 0 ?_
        refine QP.pick [0] ?_
        exact QP.meet ⟨_, Option.some.inj h, rfl, rfl, rfl⟩
    · replace hc := (Bool.eq_false_iff.1 hc)
      rw [if_neg hc] at h
      have hc31 := hc
      clear hc
      refine WA.pure [4, 5, 6, 7, 8, 9, 10, 11, 12, 13, 14, 15, 16, 17, 18, 19, 20, 21, 22, 23, 24, 25, 26, 27, 28, 29, 30, 31, 32, 33, 34] [0] (m := 0) (b' := 34359738367) (L' := [(0, .bool false)]) (by kernel_rfl) (NoPanic.then (NoPanic.body)) Under.refl hS (by kernel_rfl) ?_
      refine WA.done hS (by kernel_rfl) ?_
      refine QP.pick [0] ?_
      refine QP.dropAt 2 ?_
      refine QP.dropAt 1 ?_
      refine QP.dropAt 0 ?_
      refine QP.pick [0] ?_
      exact QP.meet ⟨_, Option.some.inj h, rfl, rfl, rfl⟩
  · rintro _ _ _ ⟨s20, rfl, rfl, rfl, rfl⟩
    clear h
    replace h := hk21
    refine WP.ret ?_
    obtain rfl := Option.some.inj h
    exact QP.returned [0] [.bool s20] _ (by kernel_rfl) (by kernel_rfl) (by kernel_rfl) (fun W hI => ⟨_, _, _, rfl, ⟨rfl, rfl, rfl⟩, hI⟩)

/-! ### grapevine/grapevinelaw0.Low: function 24 -/
def grapevinelaw0_Low (a0 : Int) (a1 : Int) : Option Int := (if ¬ (IntKind.u64.wrap a1) = 0 then some (IntKind.i64.wrap (Int.tmod (IntKind.u64.wrap a0) (IntKind.u64.wrap a1))) else none)
set_option maxHeartbeats 4000000 in
theorem grapevinelaw0_Low_calls {B : World} {G : GMap} {Γ : List Chunk} {W : World} (a0 : Int) (a1 : Int) (r : Int) (h : grapevinelaw0_Low a0 a1 = some r) (hI : Inv B G (Γ) W) :
    Calls Tryd.prog 24 [.int .i64 a0, .int .i64 a1].toArray W (Ret B (fun v G' Γ' => v = .int .i64 r ∧ G = G' ∧ Γ = Γ')) := by
  refine calls_WP (Γ := Γ) (G := G) (B := B) Tryd.func24 rfl (by kernel_rfl) ?_ hI
  clear hI
  unfold grapevinelaw0_Low at h
  refine WP.seqP [0, 1] (L' := [(0, .int .i64 a0), (1, .int .i64 a1)]) (by kernel_rfl) ?_
  refine WP.seqR ?_
  refine WL.pure 0 4 [6, 8] (L' := [(6, .int .u64 (IntKind.u64.wrap a0)), (8, .int .u64 (IntKind.u64.wrap a1))]) (by kernel_rfl) (by decide) ?_
  by_cases hb1 : ¬ (IntKind.u64.wrap a1) = 0
  case neg => rw [if_neg hb1] at h; cases h
  rw [if_pos hb1] at h
  refine WL.tell (op := .binOp .rem 72 (.tmp 6) (.tmp 8) 72) (ty := 72) (d := some 9) (g := none) (by kernel_rfl) (by kernel_rfl) (by kernel_rfl) (Tells.rem (k := .u64) (a := (IntKind.u64.wrap a0)) (b := (IntKind.u64.wrap a1)) (by kernel_rfl) (by kernel_rfl) hb1) ?_
  refine WL.restQ 5 [4] (L' := [(4, .int .i64 (IntKind.i64.wrap (Int.tmod (IntKind.u64.wrap a0) (IntKind.u64.wrap a1))))]) (by kernel_rfl) ?_
  refine WP.ret ?_
  obtain rfl := Option.some.inj h
  exact QP.returned [4] [.int .i64 (IntKind.i64.wrap (Int.tmod (IntKind.u64.wrap a0) (IntKind.u64.wrap a1)))] _ (by kernel_rfl) (by kernel_rfl) (by kernel_rfl) (fun W hI => ⟨_, _, _, rfl, ⟨rfl, rfl, rfl⟩, hI⟩)

/-! ### grapevine/grapevinelaw0.GreatRecords: function 26 -/
def grapevinelaw0_GreatRecords_l0 (l0 : List T27) (a1 : Int) : Nat → Int → Option (Sum Bool Unit)
  | 0, _ => none
  | k + 1, y3 => ((if y3 < (l0.length : Int) then some (decide ((l0.length : Int) ≤ a1)) else some false).bind fun s6 => (if s6 = true then (if 0 ≤ y3 ∧ y3 < (l0.length : Int) then (if (((l0.getD y3.toNat z27).f4).size : Int) > 300 then some (Sum.inl true) else grapevinelaw0_GreatRecords_l0 l0 a1 k (IntKind.i64.wrap (y3 + 1))) else none) else some (Sum.inr ())))
def grapevinelaw0_GreatRecords (k : Nat) (l0 : List T27) (a1 : Int) : Option Bool := ((grapevinelaw0_GreatRecords_l0 l0 a1 k 0).bind fun os1 => match os1 with | Sum.inl r => some r | Sum.inr s1 => some (decide ((l0.length : Int) > a1)))
set_option maxHeartbeats 4000000 in
theorem grapevinelaw0_GreatRecords_calls {B : World} {G : GMap} {Γ : List Chunk} {W : World} (k : Nat) (l0 : List T27) (a1 : Int) (Al0 : Option Addr) (cl0 : Nat) (Hl0 : Rd k27 G Al0 cl0 l0) (r : Bool) (h : grapevinelaw0_GreatRecords k l0 a1 = some r) (hI : Inv B G (Γ) W) :
    Calls Tryd.prog 26 [.slice Al0 l0.length cl0, .int .i64 a1].toArray W (Ret B (fun v G' Γ' => v = .bool r ∧ G = G' ∧ Γ = Γ')) := by
  refine calls_WP (Γ := Γ) (G := G) (B := B) Tryd.func26 rfl (by kernel_rfl) ?_ hI
  clear hI
  unfold grapevinelaw0_GreatRecords at h
  refine WP.seqP [0, 1] (L' := [(0, .slice Al0 l0.length cl0), (1, .int .i64 a1)]) (by kernel_rfl) ?_
  refine WP.seq ?_
  refine WP.seqP [0, 1, 5] (L' := [(0, .slice Al0 l0.length cl0), (1, .int .i64 a1), (5, .int .i64 0)]) (by kernel_rfl) ?_
  rw [Option.bind_eq_some_iff] at h
  obtain ⟨os1, h, hk2⟩ := h
  refine WP.cutQ (fun L' G' Γ' => ∃ s1 : Unit, Sum.inr s1 = os1 ∧ L' = [(0, .slice Al0 l0.length cl0), (1, .int .i64 a1)] ∧ G = G' ∧ Γ = Γ') ?_ ?_
  · skip
    refine WP.block ?_
    refine WP.pick [0, 1, 5] ?_
    refine WP.loopF (fun kn4 L' G' Γ' => ∃ (y3 : Int), grapevinelaw0_GreatRecords_l0 l0 a1 kn4 y3 = some os1 ∧ L' = [(0, .slice Al0 l0.length cl0), (1, .int .i64 a1), (5, .int .i64 y3)] ∧ G = G' ∧ Γ = Γ') ?_ k ⟨0, h, rfl, rfl, rfl⟩
    clear h
    rintro kn5 _ _ _ ⟨y3, h, rfl, rfl, rfl⟩
    cases kn5 with
    | zero => exact absurd h (by simp [grapevinelaw0_GreatRecords_l0])
    | succ kn5 =>
      simp only [grapevinelaw0_GreatRecords_l0] at h
      refine WP.seq ?_
      rw [Option.bind_eq_some_iff] at h
      obtain ⟨os6, h, hk7⟩ := h
      refine WP.cut (fun L' G' Γ' => ∃ s6 : Bool, s6 = os6 ∧ L' = [(0, .slice Al0 l0.length cl0), (1, .int .i64 a1), (5, .int .i64 y3), (15, .bool s6)] ∧ G = G' ∧ Γ = Γ') ?_ ?_
      · clear hk7
        refine WP.region ?_
        refine WL.pure 0 5 [0, 1, 5, 10] (L' := [(0, .slice Al0 l0.length cl0), (1, .int .i64 a1), (5, .int .i64 y3), (10, .bool (decide (y3 < (l0.length : Int))))]) (by kernel_rfl) (by decide) ?_
        refine WL.split 10 (b := decide (y3 < (l0.length : Int))) (by kernel_rfl) (fun hc => ?_) (fun hc => ?_)
        · replace hc := of_decide_eq_true hc
          rw [if_pos hc] at h
          have hc8 := hc
          clear hc
          refine WL.rest 5 [0, 1, 5, 15] (L' := [(0, .slice Al0 l0.length cl0), (1, .int .i64 a1), (5, .int .i64 y3), (15, .bool (decide ((l0.length : Int) ≤ a1)))]) (by kernel_rfl) ?_
          refine QP.pick [0, 1, 5, 15] ?_
          exact QP.meet ⟨_, Option.some.inj h, rfl, rfl, rfl⟩
        · replace hc := of_decide_eq_false hc
          rw [if_neg hc] at h
          have hc8 := hc
          clear hc
          refine WL.rest 5 [0, 1, 5, 15] (L' := [(0, .slice Al0 l0.length cl0), (1, .int .i64 a1), (5, .int .i64 y3), (15, .bool false)]) (by kernel_rfl) ?_
          refine QP.pick [0, 1, 5, 15] ?_
          exact QP.meet ⟨_, Option.some.inj h, rfl, rfl, rfl⟩
      · rintro _ _ _ ⟨s6, rfl, rfl, rfl, rfl⟩
        clear h
        replace h := hk7
        refine WP.cond (b := s6) (by kernel_rfl) (fun hc => ?_) (fun hc => ?_)
        · replace hc := hc
          rw [if_pos hc] at h
          have hc9 := hc
          clear hc
          refine WP.skip ?_
          refine QP.next ?_
          refine WP.pick [0, 1, 5] ?_
          refine WP.seq ?_
          refine WP.block ?_
          refine WP.seqR ?_
          refine WL.pure 0 2 [0, 1, 5, 18, 19] (L' := [(0, .slice Al0 l0.length cl0), (1, .int .i64 a1), (5, .int .i64 y3), (18, .slice Al0 l0.length cl0), (19, .int .i64 y3)]) (by kernel_rfl) (by decide) ?_
          by_cases hb10 : 0 ≤ y3 ∧ y3 < (l0.length : Int)
          case neg => rw [if_neg hb10] at h; cases h
          rw [if_pos hb10] at h
          refine WL.tell (op := .indexAddr 46 (.tmp 18) (.tmp 19)) (ty := 0) (d := some 20) (g := none) (by kernel_rfl) (by kernel_rfl) (by kernel_rfl) (Tells.indexAddr (A := Al0) (n := l0.length) (c := cl0) (k := .i64) (j := y3) (by kernel_rfl) (by kernel_rfl) (Hl0.isSome hb10.1 hb10.2) hb10.1 hb10.2 sl46) ?_
          refine WL.tell (op := .fieldAddr 27 (.tmp 20) 2) (ty := 0) (d := some 21) (g := none) (by kernel_rfl) (by kernel_rfl) (by kernel_rfl) (Tells.fieldElem (m := y3.toNat * 5) (A := Al0) (by kernel_rfl) (Hl0.isSome hb10.1 hb10.2) fi27_2) ?_
          refine WL.tellE (op := .load 9 (.tmp 21)) (ty := 9) (d := some 22) (g := none) (by kernel_rfl) (by kernel_rfl) (by kernel_rfl) (Hl0.loadF (agg := false) (off := 4) hb10.1 hb10.2 z27 ag9 (fun _ => rfl) (by decide) (by kernel_rfl)) ?_
          rintro _ rfl
          refine WL.restQ 5 [0, 1, 5, 24] (L' := [(0, .slice Al0 l0.length cl0), (1, .int .i64 a1), (5, .int .i64 y3), (24, .bool (decide ((((l0.getD y3.toNat z27).f4).size : Int) > 300)))]) (by kernel_rfl) ?_
          refine WP.cond (b := decide ((((l0.getD y3.toNat z27).f4).size : Int) > 300)) (by kernel_rfl) (fun hc => ?_) (fun hc => ?_)
          · replace hc := of_decide_eq_true hc
            rw [if_pos hc] at h
            have hc11 := hc
            clear hc
            refine WP.seqP [4] (L' := [(4, .bool true)]) (by kernel_rfl) ?_
            refine WP.ret ?_
            refine QP.blockR ?_
            refine QP.thenR ?_
            refine QP.thenR ?_
            refine QP.blockR ?_
            refine QP.thenR ?_
            refine QP.thenR ?_
            obtain rfl := Option.some.inj h
            obtain rfl := Option.some.inj (show some _ = some _ from hk2)
            exact QP.returned [4] [.bool true] _ (by kernel_rfl) (by kernel_rfl) (by kernel_rfl) (fun W hI => ⟨_, _, _, rfl, ⟨rfl, rfl, rfl⟩, hI⟩)
          · replace hc := of_decide_eq_false hc
            rw [if_neg hc] at h
            have hc11 := hc
            clear hc
            refine WP.skip ?_
            refine QP.blockN ?_
            refine QP.next ?_
            refine WP.pick [0, 1, 5] ?_
            refine WP.regionP [0, 1, 5] (L' := [(0, .slice Al0 l0.length cl0), (1, .int .i64 a1), (5, .int .i64 (IntKind.i64.wrap (y3 + 1)))]) (by kernel_rfl) ?_
            refine QP.pick [0, 1, 5] ?_
            exact QP.meet ⟨kn5, Nat.lt_succ_self _, (IntKind.i64.wrap (y3 + 1)), h, rfl, rfl, rfl⟩
        · replace hc := (Bool.eq_false_iff.1 hc)
          rw [if_neg hc] at h
          have hc9 := hc
          clear hc
          refine WP.exit ?_
          refine QP.thenE ?_
          refine QP.thenE ?_
          refine QP.blockE ?_
          refine QP.pick [0, 1] ?_
          exact QP.meet ⟨_, Option.some.inj h, rfl, rfl, rfl⟩
  · rintro _ _ _ ⟨s1, rfl, rfl, rfl, rfl⟩
    clear h
    replace h := hk2
    dsimp only at h
    refine QP.next ?_
    refine WP.pick [0, 1] ?_
    refine WP.seqP [4] (L' := [(4, .bool (decide ((l0.length : Int) > a1)))]) (by kernel_rfl) ?_
    refine WP.ret ?_
    obtain rfl := Option.some.inj h
    exact QP.returned [4] [.bool (decide ((l0.length : Int) > a1))] _ (by kernel_rfl) (by kernel_rfl) (by kernel_rfl) (fun W hI => ⟨_, _, _, rfl, ⟨rfl, rfl, rfl⟩, hI⟩)
end Go.Proofs.YtjmhhmljldjmjaaDoor.Gf
