/- Walks of Go functions: what each tells, as a plain Lean function, and that the Go code comes to it. Written by gg.py of this repo. -/
import Derived.Test.YtajhihpaccggdaaDoorT
namespace Go.Proofs.YtajhihpaccggdaaDoor.Gf
open Go Go.Gg
set_option maxRecDepth 100000
set_option linter.unusedVariables false
set_option linter.unusedSimpArgs false

/-! ### grapevine/tree.New: function 14 -/
def tree_New : Option T97 := some (⟨([] : List (T32 × T103)), ([] : List (T130 × Int))⟩ : T97)
set_option maxHeartbeats 4000000 in
theorem tree_New_calls {B : World} {G : GMap} {Γ : List Chunk} {W : World} (r : T97) (h : tree_New  = some r) (hI : Inv B G (Γ) W) :
    Calls Tryd.prog 14 [].toArray W (Ret B (fun v G' Γ' => ∃ (bR : Nat), ∃ (AR_0 : Option Addr), ∃ (cR_0 : Nat), ∃ (CR_0 : Chunk), ∃ (AR_1 : Option Addr), ∃ (cR_1 : Nat), ∃ (CR_1 : Chunk), v = .pointer (some ⟨bR, 0, none⟩) ∧ MpO m94 G' AR_0 cR_0 r.f0 CR_0 ∧ MpO m95 G' AR_1 cR_1 r.f1 CR_1 ∧ G = G' ∧ [(bR, .cells #[mpv AR_0, mpv AR_1] 97 (0, 0))] :: CR_0 :: CR_1 :: Γ = Γ')) := by
  refine calls_WP (Γ := Γ) (G := G) (B := B) Tryd.func14 rfl (by kernel_rfl) ?_ hI
  clear hI
  unfold tree_New at h
  refine WP.seqP [] (L' := []) (by kernel_rfl) ?_
  refine WP.seqR ?_
  refine WL.op (op := .makeMap 94 none) (ty := 94) (d := some 1) (g := none) (by kernel_rfl) (by kernel_rfl) (by kernel_rfl) (Does.new (o := .map #[] 0) (v := fun r => .map (some r)) (fun r => by kernel_rfl)) ?_
  rintro _ _ _ ⟨b1, rfl, rfl, rfl⟩
  have Hp2 := MpO.new m94 G b1
  refine WL.op (op := .makeMap 95 none) (ty := 95) (d := some 2) (g := none) (by kernel_rfl) (by kernel_rfl) (by kernel_rfl) (Does.new (o := .map #[] 0) (v := fun r => .map (some r)) (fun r => by kernel_rfl)) ?_
  rintro _ _ _ ⟨b3, rfl, rfl, rfl⟩
  have Hp4 := MpO.new m95 G b3
  refine WL.pure 2 3 [3] (L' := [(3, .agg #[mpv (some ⟨b1, 0, none⟩), mpv (some ⟨b3, 0, none⟩)])]) (by kernel_rfl) (by decide) ?_
  refine WL.op (op := .box 97 (.tmp 3)) (ty := 25) (d := some 4) (g := none) (by kernel_rfl) (by kernel_rfl) (by kernel_rfl) (Does.new (o := .cells #[mpv (some ⟨b1, 0, none⟩), mpv (some ⟨b3, 0, none⟩)] 97 (0, 0)) (v := fun r => .pointer (some ⟨r, 0, none⟩)) (fun r => by kernel_rfl)) ?_
  rintro _ _ _ ⟨b5, rfl, rfl, rfl⟩
  refine WL.restQ 4 [0] (L' := [(0, .pointer (some ⟨b5, 0, none⟩))]) (by kernel_rfl) ?_
  refine WP.ret ?_
  obtain rfl := Option.some.inj h
  refine QP.front (i := 1) rfl ?_
  refine QP.front (i := 2) rfl ?_
  refine QP.front (i := 2) rfl ?_
  exact QP.returned [0] [.pointer (some ⟨b5, 0, none⟩)] _ (by kernel_rfl) (by kernel_rfl) (by kernel_rfl) (fun W hI => ⟨_, _, _, rfl, ⟨b5, (some ⟨b1, 0, none⟩), 0, [(b1, .map #[] 0)], (some ⟨b3, 0, none⟩), 0, [(b3, .map #[] 0)], rfl, Hp2, Hp4, rfl, rfl⟩, hI⟩)

/-! ### grapevine/grapevinelaw12.one: function 53 -/
def grapevinelaw12_one : Option T36 := some (⟨0, 5, 0, 0, (⟨#[97]⟩ : ByteArray)⟩ : T36)
set_option maxHeartbeats 4000000 in
theorem grapevinelaw12_one_calls {B : World} {G : GMap} {Γ : List Chunk} {W : World} (r : T36) (h : grapevinelaw12_one  = some r) (hI : Inv B G (Γ) W) :
    Calls Tryd.prog 53 [].toArray W (Ret B (fun v G' Γ' => v = .agg #[.int .i64 r.f0, .int .i64 r.f1, .int .i64 r.f2, .int .i64 r.f3, .string r.f4] ∧ G = G' ∧ Γ = Γ')) := by
  refine calls_WP (Γ := Γ) (G := G) (B := B) Tryd.func53 rfl (by kernel_rfl) ?_ hI
  clear hI
  unfold grapevinelaw12_one at h
  refine WP.seqR ?_
  refine WL.op (op := .alloc 36) (ty := 0) (d := some 0) (g := none) (by kernel_rfl) (by kernel_rfl) (by kernel_rfl) (Does.new (o := .cells #[.int .i64 0, .int .i64 0, .int .i64 0, .int .i64 0, .string (⟨#[]⟩ : ByteArray)] 36 (0, 0)) (v := fun r => .pointer (some ⟨r, 0, none⟩)) (fun r => by kernel_rfl)) ?_
  rintro _ _ _ ⟨b1, rfl, rfl, rfl⟩
  refine WL.restQ 1 [0] (L' := [(0, .pointer (some ⟨b1, 0, none⟩))]) (by kernel_rfl) ?_
  refine WP.seqR ?_
  refine WL.pure 0 2 [0, 2] (L' := [(0, .pointer (some ⟨b1, 0, none⟩)), (2, .agg #[.int .i64 0, .int .i64 5, .int .i64 0, .int .i64 0, .string (⟨#[97]⟩ : ByteArray)])]) (by kernel_rfl) (by decide) ?_
  refine WL.op (op := .store 36 (.tmp 0) (.tmp 2)) (ty := 0) (d := none) (g := none) (by kernel_rfl) (by kernel_rfl) (by kernel_rfl) (Does.store_box (i := 0) (b := b1) (o := 0) (v := .agg #[.int .i64 0, .int .i64 5, .int .i64 0, .int .i64 0, .string (⟨#[97]⟩ : ByteArray)]) (by rfl) sz36 (by kernel_rfl) (by kernel_rfl) (by kernel_rfl) (Free.zero _) (Nat.le_of_ble_eq_true rfl) (cells' := #[.int .i64 0, .int .i64 5, .int .i64 0, .int .i64 0, .string (⟨#[97]⟩ : ByteArray)]) (by kernel_rfl)) ?_
  rintro _ _ _ ⟨rfl, rfl, rfl⟩
  refine WL.restQ 3 [0] (L' := [(0, .pointer (some ⟨b1, 0, none⟩))]) (by kernel_rfl) ?_
  refine WP.ret ?_
  obtain rfl := Option.some.inj h
  exact QP.returnedM (rs := [.cell 0 36]) (by kernel_rfl) (ResAll.cons (Res1.box (p := 0) (i := 0) (o := 0) (agg := true) (by rfl) ag36 (by kernel_rfl) (fun h => by cases h) (Nat.le_of_ble_eq_true rfl) (v := .agg #[.int .i64 0, .int .i64 5, .int .i64 0, .int .i64 0, .string (⟨#[97]⟩ : ByteArray)]) (by kernel_rfl)) ResAll.nil) (by kernel_rfl) (fun W hI => ⟨_, _, _, rfl, ⟨rfl, rfl, rfl⟩, (hI.less 0 rfl)⟩)

/-! ### grapevine/stamp.wall: function 95 -/
def stamp_wall (a0 : Int) : Option Bool := ((if a0 ≥ 0 then some (decide (a0 ≤ 1099511627776)) else some false).bind fun s1 => some s1)
set_option maxHeartbeats 4000000 in
theorem stamp_wall_calls {B : World} {G : GMap} {Γ : List Chunk} {W : World} (a0 : Int) (r : Bool) (h : stamp_wall a0 = some r) (hI : Inv B G (Γ) W) :
    Calls Tryd.prog 95 [.int .i64 a0].toArray W (Ret B (fun v G' Γ' => v = .bool r ∧ G = G' ∧ Γ = Γ')) := by
  refine calls_WP (Γ := Γ) (G := G) (B := B) Tryd.func95 rfl (by kernel_rfl) ?_ hI
  clear hI
  unfold stamp_wall at h
  refine WP.seqP [0] (L' := [(0, .int .i64 a0)]) (by kernel_rfl) ?_
  rw [Option.bind_eq_some_iff] at h
  obtain ⟨os1, h, hk2⟩ := h
  refine WP.cut (fun L' G' Γ' => ∃ s1 : Bool, s1 = os1 ∧ L' = [(2, .bool s1)] ∧ G = G' ∧ Γ = Γ') ?_ ?_
  · clear hk2
    refine WP.region ?_
    refine WL.pure 0 3 [0, 5] (L' := [(0, .int .i64 a0), (5, .bool (decide (a0 ≥ 0)))]) (by kernel_rfl) (by decide) ?_
    refine WL.split 5 (b := decide (a0 ≥ 0)) (by kernel_rfl) (fun hc => ?_) (fun hc => ?_)
    · replace hc := of_decide_eq_true hc
      rw [if_pos hc] at h
      have hc3 := hc
      clear hc
      refine WL.rest 3 [2] (L' := [(2, .bool (decide (a0 ≤ 1099511627776)))]) (by kernel_rfl) ?_
      refine QP.pick [2] ?_
      exact QP.meet ⟨_, Option.some.inj h, rfl, rfl, rfl⟩
    · replace hc := of_decide_eq_false hc
      rw [if_neg hc] at h
      have hc3 := hc
      clear hc
      refine WL.rest 3 [2] (L' := [(2, .bool false)]) (by kernel_rfl) ?_
      refine QP.pick [2] ?_
      exact QP.meet ⟨_, Option.some.inj h, rfl, rfl, rfl⟩
  · rintro _ _ _ ⟨s1, rfl, rfl, rfl, rfl⟩
    clear h
    replace h := hk2
    refine WP.ret ?_
    obtain rfl := Option.some.inj h
    exact QP.returned [2] [.bool s1] _ (by kernel_rfl) (by kernel_rfl) (by kernel_rfl) (fun W hI => ⟨_, _, _, rfl, ⟨rfl, rfl, rfl⟩, hI⟩)

/-! ### grapevine/stamp.May: function 87 -/
def stamp_May (a0 : T34) : Option Bool := (((stamp_wall a0.f0).bind fun t4 => (if t4 = true then (if a0.f1 ≥ 0 then some (decide (a0.f1 ≤ 65535)) else some false) else some false)).bind fun s2 => some s2)
set_option maxHeartbeats 4000000 in
theorem stamp_May_calls {B : World} {G : GMap} {Γ : List Chunk} {W : World} (a0 : T34) (r : Bool) (h : stamp_May a0 = some r) (hI : Inv B G (Γ) W) :
    Calls Tryd.prog 87 [.agg #[.int .i64 a0.f0, .int .i64 a0.f1]].toArray W (Ret B (fun v G' Γ' => v = .bool r ∧ G = G' ∧ Γ = Γ')) := by
  refine calls_WP (Γ := Γ) (G := G) (B := B) Tryd.func87 rfl (by kernel_rfl) ?_ hI
  clear hI
  unfold stamp_May at h
  refine WP.seqR ?_
  refine WL.op (op := .box 34 (.tmp 0)) (ty := 0) (d := some 1) (g := none) (by kernel_rfl) (by kernel_rfl) (by kernel_rfl) (Does.new (o := .cells #[.int .i64 a0.f0, .int .i64 a0.f1] 34 (0, 0)) (v := fun r => .pointer (some ⟨r, 0, none⟩)) (fun r => by kernel_rfl)) ?_
  rintro _ _ _ ⟨b1, rfl, rfl, rfl⟩
  refine WL.restQ 1 [1] (L' := [(1, .pointer (some ⟨b1, 0, none⟩))]) (by kernel_rfl) ?_
  rw [Option.bind_eq_some_iff] at h
  obtain ⟨os2, h, hk3⟩ := h
  refine WP.cut (fun L' G' Γ' => ∃ s2 : Bool, s2 = os2 ∧ L' = [(2, .bool s2)] ∧ G = G' ∧ Γ = Γ') ?_ ?_
  · clear hk3
    refine WP.region ?_
    refine WL.pure 0 1 [1, 3] (L' := [(1, .pointer (some ⟨b1, 0, none⟩)), (3, .pointer (some ⟨b1, 0, none⟩))]) (by kernel_rfl) (by decide) ?_
    refine WL.tell (op := .load 3 (.tmp 3)) (ty := 3) (d := some 4) (g := none) (by kernel_rfl) (by kernel_rfl) (by kernel_rfl) (Tells.load_box (i := 0) (b := b1) (o := 0) (agg := false) (by rfl) ag3 (by kernel_rfl) (fun _ => rfl) (Nat.le_of_ble_eq_true rfl) (v := .int .i64 a0.f0) (by kernel_rfl)) ?_
    rw [Option.bind_eq_some_iff] at h
    obtain ⟨t4, ht5, h⟩ := h
    refine WL.op (op := .call { callee := (.value (.func 95)), args := #[(.tmp 4)], argTypes := #[3] }) (ty := 4) (d := some 5) (g := none) (by kernel_rfl) (by kernel_rfl) (by kernel_rfl) (Does.call (f := 95) (args := [.int .i64 a0.f0]) (by kernel_rfl) (fun W hI => (stamp_wall_calls a0.f0  t4 ht5 hI))) ?_
    rintro _ _ _ ⟨rfl, rfl, rfl⟩
    refine WL.pure 3 4 [1, 6] (L' := [(1, .pointer (some ⟨b1, 0, none⟩)), (6, .bool t4)]) (by kernel_rfl) (by decide) ?_
    refine WL.split 6 (b := t4) (by kernel_rfl) (fun hc => ?_) (fun hc => ?_)
    · replace hc := hc
      rw [if_pos hc] at h
      have hc8 := hc
      clear hc
      refine WL.pure 4 5 [1, 6, 7] (L' := [(1, .pointer (some ⟨b1, 0, none⟩)), (6, .bool true), (7, .pointer (some ⟨b1, 1, none⟩))]) (by kernel_rfl) (by decide) ?_
      refine WL.tell (op := .load 3 (.tmp 7)) (ty := 3) (d := some 8) (g := some (3, true)) (by kernel_rfl) (by kernel_rfl) (by kernel_rfl) (Tells.load_box (i := 0) (b := b1) (o := 1) (agg := false) (by rfl) ag3 (by kernel_rfl) (fun _ => rfl) (Nat.le_of_ble_eq_true rfl) (v := .int .i64 a0.f1) (by kernel_rfl)) ?_
      refine WL.pure 6 9 [1, 11] (L' := [(1, .pointer (some ⟨b1, 0, none⟩)), (11, .bool (decide (a0.f1 ≥ 0)))]) (by kernel_rfl) (by decide) ?_
      refine WL.split 11 (b := decide (a0.f1 ≥ 0)) (by kernel_rfl) (fun hc => ?_) (fun hc => ?_)
      · replace hc := of_decide_eq_true hc
        rw [if_pos hc] at h
        have hc9 := hc
        clear hc
        refine WL.pure 9 10 [11, 12] (L' := [(11, .bool true), (12, .pointer (some ⟨b1, 1, none⟩))]) (by kernel_rfl) (by decide) ?_
        refine WL.tell (op := .load 3 (.tmp 12)) (ty := 3) (d := some 13) (g := some (8, true)) (by kernel_rfl) (by kernel_rfl) (by kernel_rfl) (Tells.load_box (i := 0) (b := b1) (o := 1) (agg := false) (by rfl) ag3 (by kernel_rfl) (fun _ => rfl) (Nat.le_of_ble_eq_true rfl) (v := .int .i64 a0.f1) (by kernel_rfl)) ?_
        refine WL.rest 11 [2] (L' := [(2, .bool (decide (a0.f1 ≤ 65535)))]) (by kernel_rfl) ?_
        refine QP.dropAt 0 ?_
        refine QP.pick [2] ?_
        exact QP.meet ⟨_, Option.some.inj h, rfl, rfl, rfl⟩
      · replace hc := of_decide_eq_false hc
        rw [if_neg hc] at h
        have hc9 := hc
        clear hc
        refine WL.rest 9 [2] (L' := [(2, .bool false)]) (by kernel_rfl) ?_
        refine QP.dropAt 0 ?_
        refine QP.pick [2] ?_
        exact QP.meet ⟨_, Option.some.inj h, rfl, rfl, rfl⟩
    · replace hc := (Bool.eq_false_iff.1 hc)
      rw [if_neg hc] at h
      have hc8 := hc
      clear hc
      refine WL.rest 4 [2] (L' := [(2, .bool false)]) (by kernel_rfl) ?_
      refine QP.dropAt 0 ?_
      refine QP.pick [2] ?_
      exact QP.meet ⟨_, Option.some.inj h, rfl, rfl, rfl⟩
  · rintro _ _ _ ⟨s2, rfl, rfl, rfl, rfl⟩
    clear h
    replace h := hk3
    refine WP.ret ?_
    obtain rfl := Option.some.inj h
    exact QP.returned [2] [.bool s2] _ (by kernel_rfl) (by kernel_rfl) (by kernel_rfl) (fun W hI => ⟨_, _, _, rfl, ⟨rfl, rfl, rfl⟩, hI⟩)

/-! ### unicode/utf8.ValidString: function 94 -/
def utf8_ValidString (a0 : ByteArray) : Option Bool := (if a0.size ≤ 9223372036854775807 then some (Lib.validD a0.data.toList) else none)
set_option maxHeartbeats 4000000 in
theorem utf8_ValidString_calls {B : World} {G : GMap} {Γ : List Chunk} {W : World} (HT : Tabs B G) (a0 : ByteArray) (r : Bool) (h : utf8_ValidString a0 = some r) (hI : Inv B G (Γ) W) :
    Calls Tryd.prog 94 [.string a0].toArray W (Ret B (fun v G' Γ' => v = .bool r ∧ G = G' ∧ Γ = Γ')) := by
  unfold utf8_ValidString at h
  by_cases hs : a0.size ≤ 9223372036854775807
  case neg => rw [if_neg hs] at h; cases h
  rw [if_pos hs] at h
  obtain rfl := Option.some.inj h
  exact Calls.kept (Any.utf8_ValidString Tryd.laysValid a0 W hs (HT _ _ hI)) hI

/-! ### grapevine/tokens.May: function 88 -/
def tokens_May (a0 : ByteArray) : Option Bool := ((if (a0.size : Int) ≤ 120 then ((utf8_ValidString a0).bind fun t4 => some t4) else some false).bind fun s1 => some s1)
set_option maxHeartbeats 4000000 in
theorem tokens_May_calls {B : World} {G : GMap} {Γ : List Chunk} {W : World} (HT : Tabs B G) (a0 : ByteArray) (r : Bool) (h : tokens_May a0 = some r) (hI : Inv B G (Γ) W) :
    Calls Tryd.prog 88 [.string a0].toArray W (Ret B (fun v G' Γ' => v = .bool r ∧ G = G' ∧ Γ = Γ')) := by
  refine calls_WP (Γ := Γ) (G := G) (B := B) Tryd.func88 rfl (by kernel_rfl) ?_ hI
  clear hI
  unfold tokens_May at h
  refine WP.seqP [0] (L' := [(0, .string a0)]) (by kernel_rfl) ?_
  rw [Option.bind_eq_some_iff] at h
  obtain ⟨os1, h, hk2⟩ := h
  refine WP.cut (fun L' G' Γ' => ∃ s1 : Bool, s1 = os1 ∧ L' = [(2, .bool s1)] ∧ G = G' ∧ Γ = Γ') ?_ ?_
  · clear hk2
    refine WP.region ?_
    refine WL.pure 0 4 [0, 6] (L' := [(0, .string a0), (6, .bool (decide ((a0.size : Int) ≤ 120)))]) (by kernel_rfl) (by decide) ?_
    refine WL.split 6 (b := decide ((a0.size : Int) ≤ 120)) (by kernel_rfl) (fun hc => ?_) (fun hc => ?_)
    · replace hc := of_decide_eq_true hc
      rw [if_pos hc] at h
      have hc3 := hc
      clear hc
      refine WL.pure 4 5 [6, 7] (L' := [(6, .bool true), (7, .string a0)]) (by kernel_rfl) (by decide) ?_
      rw [Option.bind_eq_some_iff] at h
      obtain ⟨t4, ht5, h⟩ := h
      refine WL.op (op := .call { callee := (.value (.func 94)), args := #[(.tmp 7)], argTypes := #[9] }) (ty := 4) (d := some 8) (g := some (3, true)) (by kernel_rfl) (by kernel_rfl) (by kernel_rfl) (Does.call (f := 94) (args := [.string a0]) (by kernel_rfl) (fun W hI => (utf8_ValidString_calls HT a0  t4 ht5 hI))) ?_
      rintro _ _ _ ⟨rfl, rfl, rfl⟩
      refine WL.rest 6 [2] (L' := [(2, .bool t4)]) (by kernel_rfl) ?_
      refine QP.pick [2] ?_
      exact QP.meet ⟨_, Option.some.inj h, rfl, rfl, rfl⟩
    · replace hc := of_decide_eq_false hc
      rw [if_neg hc] at h
      have hc3 := hc
      clear hc
      refine WL.rest 4 [2] (L' := [(2, .bool false)]) (by kernel_rfl) ?_
      refine QP.pick [2] ?_
      exact QP.meet ⟨_, Option.some.inj h, rfl, rfl, rfl⟩
  · rintro _ _ _ ⟨s1, rfl, rfl, rfl, rfl⟩
    clear h
    replace h := hk2
    refine WP.ret ?_
    obtain rfl := Option.some.inj h
    exact QP.returned [2] [.bool s1] _ (by kernel_rfl) (by kernel_rfl) (by kernel_rfl) (fun W hI => ⟨_, _, _, rfl, ⟨rfl, rfl, rfl⟩, hI⟩)

/-! ### grapevine/record.May: function 70 -/
def record_May (a0 : T36) : Option Bool := ((if a0.f0 ≥ 0 then (if a0.f0 < 8 then (if a0.f1 ≥ 1 then (if a0.f1 ≤ 1023 then ((stamp_May (⟨a0.f2, a0.f3⟩ : T34)).bind fun t8 => (if t8 = true then ((tokens_May a0.f4).bind fun t13 => some t13) else some false)) else some false) else some false) else some false) else some false).bind fun s2 => some s2)
set_option maxHeartbeats 4000000 in
theorem record_May_calls {B : World} {G : GMap} {Γ : List Chunk} {W : World} (HT : Tabs B G) (a0 : T36) (r : Bool) (h : record_May a0 = some r) (hI : Inv B G (Γ) W) :
    Calls Tryd.prog 70 [.agg #[.int .i64 a0.f0, .int .i64 a0.f1, .int .i64 a0.f2, .int .i64 a0.f3, .string a0.f4]].toArray W (Ret B (fun v G' Γ' => v = .bool r ∧ G = G' ∧ Γ = Γ')) := by
  refine calls_WP (Γ := Γ) (G := G) (B := B) Tryd.func70 rfl (by kernel_rfl) ?_ hI
  clear hI
  unfold record_May at h
  refine WP.seqR ?_
  refine WL.op (op := .box 36 (.tmp 0)) (ty := 0) (d := some 1) (g := none) (by kernel_rfl) (by kernel_rfl) (by kernel_rfl) (Does.new (o := .cells #[.int .i64 a0.f0, .int .i64 a0.f1, .int .i64 a0.f2, .int .i64 a0.f3, .string a0.f4] 36 (0, 0)) (v := fun r => .pointer (some ⟨r, 0, none⟩)) (fun r => by kernel_rfl)) ?_
  rintro _ _ _ ⟨b1, rfl, rfl, rfl⟩
  refine WL.restQ 1 [1] (L' := [(1, .pointer (some ⟨b1, 0, none⟩))]) (by kernel_rfl) ?_
  rw [Option.bind_eq_some_iff] at h
  obtain ⟨os2, h, hk3⟩ := h
  refine WP.cut (fun L' G' Γ' => ∃ s2 : Bool, s2 = os2 ∧ L' = [(2, .bool s2)] ∧ G = G' ∧ Γ = Γ') ?_ ?_
  · clear hk3
    refine WP.region ?_
    refine WL.pure 0 2 [1, 4] (L' := [(1, .pointer (some ⟨b1, 0, none⟩)), (4, .pointer (some ⟨b1, 0, none⟩))]) (by kernel_rfl) (by decide) ?_
    refine WL.tell (op := .load 3 (.tmp 4)) (ty := 3) (d := some 5) (g := none) (by kernel_rfl) (by kernel_rfl) (by kernel_rfl) (Tells.load_box (i := 0) (b := b1) (o := 0) (agg := false) (by rfl) ag3 (by kernel_rfl) (fun _ => rfl) (Nat.le_of_ble_eq_true rfl) (v := .int .i64 a0.f0) (by kernel_rfl)) ?_
    refine WL.pure 3 5 [1, 7] (L' := [(1, .pointer (some ⟨b1, 0, none⟩)), (7, .bool (decide (a0.f0 ≥ 0)))]) (by kernel_rfl) (by decide) ?_
    refine WL.split 7 (b := decide (a0.f0 ≥ 0)) (by kernel_rfl) (fun hc => ?_) (fun hc => ?_)
    · replace hc := of_decide_eq_true hc
      rw [if_pos hc] at h
      have hc4 := hc
      clear hc
      refine WL.pure 5 7 [1, 7, 9] (L' := [(1, .pointer (some ⟨b1, 0, none⟩)), (7, .bool true), (9, .pointer (some ⟨b1, 0, none⟩))]) (by kernel_rfl) (by decide) ?_
      refine WL.tell (op := .load 3 (.tmp 9)) (ty := 3) (d := some 10) (g := some (4, true)) (by kernel_rfl) (by kernel_rfl) (by kernel_rfl) (Tells.load_box (i := 0) (b := b1) (o := 0) (agg := false) (by rfl) ag3 (by kernel_rfl) (fun _ => rfl) (Nat.le_of_ble_eq_true rfl) (v := .int .i64 a0.f0) (by kernel_rfl)) ?_
      refine WL.pure 8 11 [1, 13] (L' := [(1, .pointer (some ⟨b1, 0, none⟩)), (13, .bool (decide (a0.f0 < 8)))]) (by kernel_rfl) (by decide) ?_
      refine WL.split 13 (b := decide (a0.f0 < 8)) (by kernel_rfl) (fun hc => ?_) (fun hc => ?_)
      · replace hc := of_decide_eq_true hc
        rw [if_pos hc] at h
        have hc5 := hc
        clear hc
        refine WL.pure 11 13 [1, 13, 15] (L' := [(1, .pointer (some ⟨b1, 0, none⟩)), (13, .bool true), (15, .pointer (some ⟨b1, 1, none⟩))]) (by kernel_rfl) (by decide) ?_
        refine WL.tell (op := .load 3 (.tmp 15)) (ty := 3) (d := some 16) (g := some (10, true)) (by kernel_rfl) (by kernel_rfl) (by kernel_rfl) (Tells.load_box (i := 0) (b := b1) (o := 1) (agg := false) (by rfl) ag3 (by kernel_rfl) (fun _ => rfl) (Nat.le_of_ble_eq_true rfl) (v := .int .i64 a0.f1) (by kernel_rfl)) ?_
        refine WL.pure 14 17 [1, 19] (L' := [(1, .pointer (some ⟨b1, 0, none⟩)), (19, .bool (decide (a0.f1 ≥ 1)))]) (by kernel_rfl) (by decide) ?_
        refine WL.split 19 (b := decide (a0.f1 ≥ 1)) (by kernel_rfl) (fun hc => ?_) (fun hc => ?_)
        · replace hc := of_decide_eq_true hc
          rw [if_pos hc] at h
          have hc6 := hc
          clear hc
          refine WL.pure 17 19 [1, 19, 21] (L' := [(1, .pointer (some ⟨b1, 0, none⟩)), (19, .bool true), (21, .pointer (some ⟨b1, 1, none⟩))]) (by kernel_rfl) (by decide) ?_
          refine WL.tell (op := .load 3 (.tmp 21)) (ty := 3) (d := some 22) (g := some (16, true)) (by kernel_rfl) (by kernel_rfl) (by kernel_rfl) (Tells.load_box (i := 0) (b := b1) (o := 1) (agg := false) (by rfl) ag3 (by kernel_rfl) (fun _ => rfl) (Nat.le_of_ble_eq_true rfl) (v := .int .i64 a0.f1) (by kernel_rfl)) ?_
          refine WL.pure 20 23 [1, 25] (L' := [(1, .pointer (some ⟨b1, 0, none⟩)), (25, .bool (decide (a0.f1 ≤ 1023)))]) (by kernel_rfl) (by decide) ?_
          refine WL.split 25 (b := decide (a0.f1 ≤ 1023)) (by kernel_rfl) (fun hc => ?_) (fun hc => ?_)
          · replace hc := of_decide_eq_true hc
            rw [if_pos hc] at h
            have hc7 := hc
            clear hc
            refine WL.pure 23 24 [1, 25, 26] (L' := [(1, .pointer (some ⟨b1, 0, none⟩)), (25, .bool true), (26, .pointer (some ⟨b1, 2, none⟩))]) (by kernel_rfl) (by decide) ?_
            refine WL.tell (op := .load 34 (.tmp 26)) (ty := 34) (d := some 27) (g := some (22, true)) (by kernel_rfl) (by kernel_rfl) (by kernel_rfl) (Tells.load_box (i := 0) (b := b1) (o := 2) (agg := true) (by rfl) ag34 (by kernel_rfl) (fun h => by cases h) (Nat.le_of_ble_eq_true rfl) (v := .agg #[.int .i64 a0.f2, .int .i64 a0.f3]) (by kernel_rfl)) ?_
            rw [Option.bind_eq_some_iff] at h
            obtain ⟨t8, ht9, h⟩ := h
            refine WL.op (op := .call { callee := (.value (.func 87)), args := #[(.tmp 27)], argTypes := #[34] }) (ty := 4) (d := some 28) (g := some (22, true)) (by kernel_rfl) (by kernel_rfl) (by kernel_rfl) (Does.call (f := 87) (args := [.agg #[.int .i64 a0.f2, .int .i64 a0.f3]]) (by kernel_rfl) (fun W hI => (stamp_May_calls (⟨a0.f2, a0.f3⟩ : T34)  t8 ht9 hI))) ?_
            rintro _ _ _ ⟨rfl, rfl, rfl⟩
            refine WL.pure 26 28 [1, 30] (L' := [(1, .pointer (some ⟨b1, 0, none⟩)), (30, .bool t8)]) (by kernel_rfl) (by decide) ?_
            refine WL.split 30 (b := t8) (by kernel_rfl) (fun hc => ?_) (fun hc => ?_)
            · replace hc := hc
              rw [if_pos hc] at h
              have hc12 := hc
              clear hc
              refine WL.pure 28 29 [30, 31] (L' := [(30, .bool true), (31, .pointer (some ⟨b1, 4, none⟩))]) (by kernel_rfl) (by decide) ?_
              refine WL.tell (op := .load 9 (.tmp 31)) (ty := 9) (d := some 32) (g := some (27, true)) (by kernel_rfl) (by kernel_rfl) (by kernel_rfl) (Tells.load_box (i := 0) (b := b1) (o := 4) (agg := false) (by rfl) ag9 (by kernel_rfl) (fun _ => rfl) (Nat.le_of_ble_eq_true rfl) (v := .string a0.f4) (by kernel_rfl)) ?_
              rw [Option.bind_eq_some_iff] at h
              obtain ⟨t13, ht14, h⟩ := h
              refine WL.op (op := .call { callee := (.value (.func 88)), args := #[(.tmp 32)], argTypes := #[9] }) (ty := 4) (d := some 33) (g := some (27, true)) (by kernel_rfl) (by kernel_rfl) (by kernel_rfl) (Does.call (f := 88) (args := [.string a0.f4]) (by kernel_rfl) (fun W hI => (tokens_May_calls HT a0.f4  t13 ht14 hI))) ?_
              rintro _ _ _ ⟨rfl, rfl, rfl⟩
              refine WL.rest 31 [2] (L' := [(2, .bool t13)]) (by kernel_rfl) ?_
              refine QP.dropAt 0 ?_
              refine QP.pick [2] ?_
              exact QP.meet ⟨_, Option.some.inj h, rfl, rfl, rfl⟩
            · replace hc := (Bool.eq_false_iff.1 hc)
              rw [if_neg hc] at h
              have hc12 := hc
              clear hc
              refine WL.rest 28 [2] (L' := [(2, .bool false)]) (by kernel_rfl) ?_
              refine QP.dropAt 0 ?_
              refine QP.pick [2] ?_
              exact QP.meet ⟨_, Option.some.inj h, rfl, rfl, rfl⟩
          · replace hc := of_decide_eq_false hc
            rw [if_neg hc] at h
            have hc7 := hc
            clear hc
            refine WL.rest 23 [2] (L' := [(2, .bool false)]) (by kernel_rfl) ?_
            refine QP.dropAt 0 ?_
            refine QP.pick [2] ?_
            exact QP.meet ⟨_, Option.some.inj h, rfl, rfl, rfl⟩
        · replace hc := of_decide_eq_false hc
          rw [if_neg hc] at h
          have hc6 := hc
          clear hc
          refine WL.rest 17 [2] (L' := [(2, .bool false)]) (by kernel_rfl) ?_
          refine QP.dropAt 0 ?_
          refine QP.pick [2] ?_
          exact QP.meet ⟨_, Option.some.inj h, rfl, rfl, rfl⟩
      · replace hc := of_decide_eq_false hc
        rw [if_neg hc] at h
        have hc5 := hc
        clear hc
        refine WL.rest 11 [2] (L' := [(2, .bool false)]) (by kernel_rfl) ?_
        refine QP.dropAt 0 ?_
        refine QP.pick [2] ?_
        exact QP.meet ⟨_, Option.some.inj h, rfl, rfl, rfl⟩
    · replace hc := of_decide_eq_false hc
      rw [if_neg hc] at h
      have hc4 := hc
      clear hc
      refine WL.rest 5 [2] (L' := [(2, .bool false)]) (by kernel_rfl) ?_
      refine QP.dropAt 0 ?_
      refine QP.pick [2] ?_
      exact QP.meet ⟨_, Option.some.inj h, rfl, rfl, rfl⟩
  · rintro _ _ _ ⟨s2, rfl, rfl, rfl, rfl⟩
    clear h
    replace h := hk3
    refine WP.ret ?_
    obtain rfl := Option.some.inj h
    exact QP.returned [2] [.bool s2] _ (by kernel_rfl) (by kernel_rfl) (by kernel_rfl) (fun W hI => ⟨_, _, _, rfl, ⟨rfl, rfl, rfl⟩, hI⟩)

/-! ### grapevine/record.put: function 81 -/
def record_put_l0 (a1 : Int) : Nat → (List Int) → Int → Option (List Int)
  | 0, _, _ => none
  | k + 1, y3, y4 => (if y4 > 0 then (if 0 ≤ (IntKind.i64.wrap (8 * (IntKind.i64.wrap (y4 - 1)))) then (if y3.length + ([IntKind.u8.wrap (shrK .i64 a1 (IntKind.i64.wrap (8 * (IntKind.i64.wrap (y4 - 1)))))] : List Int).length ≤ 1073741824 then record_put_l0 a1 k (y3 ++ ([IntKind.u8.wrap (shrK .i64 a1 (IntKind.i64.wrap (8 * (IntKind.i64.wrap (y4 - 1)))))] : List Int)) (IntKind.i64.wrap (y4 - 1)) else none) else none) else some y3)
def record_put (k : Nat) (l0 : List Int) (a1 : Int) (a2 : Int) : Option (List Int) := ((record_put_l0 a1 k l0 a2).bind fun s1 => some s1)
set_option maxHeartbeats 4000000 in
theorem record_put_calls {B : World} {G : GMap} {Γ : List Chunk} {W : World} (k : Nat) (l0 : List Int) (a1 : Int) (a2 : Int) (Al0 : Option Addr) (cl0 : Nat) (Cl0 : Chunk) (Hl0 : Ow (kInt .u8) G Al0 cl0 l0 Cl0) (r : List Int) (h : record_put k l0 a1 a2 = some r) (hI : Inv B G (Cl0 :: Γ) W) :
    Calls Tryd.prog 81 [.slice Al0 l0.length cl0, .int .i64 a1, .int .i64 a2].toArray W (Ret B (fun v G' Γ' => ∃ (AR : Option Addr), ∃ (cR : Nat), ∃ (CR : Chunk), v = .slice AR r.length cR ∧ Ow (kInt .u8) G' AR cR r CR ∧ G = G' ∧ CR :: Γ = Γ')) := by
  refine calls_WP (Γ := Cl0 :: Γ) (G := G) (B := B) Tryd.func81 rfl (by kernel_rfl) ?_ hI
  clear hI
  unfold record_put at h
  refine WP.seqP [0, 1, 2] (L' := [(0, .slice Al0 l0.length cl0), (1, .int .i64 a1), (2, .int .i64 a2)]) (by kernel_rfl) ?_
  rw [Option.bind_eq_some_iff] at h
  obtain ⟨os1, h, hk2⟩ := h
  refine WP.cut (fun L' G' Γ' => ∃ s1 : (List Int), s1 = os1 ∧ ∃ (As1 : Option Addr), ∃ (cs1 : Nat), ∃ (Cs1 : Chunk), L' = [(0, .slice As1 s1.length cs1)] ∧ G = G' ∧ Cs1 :: Γ = Γ' ∧ Ow (kInt .u8) G As1 cs1 s1 Cs1) ?_ ?_
  · clear hk2
    refine WP.block ?_
    refine WP.pick [0, 1, 2] ?_
    refine WP.loopF (fun kn5 L' G' Γ' => ∃ (y3 : List Int), ∃ (y4 : Int), record_put_l0 a1 kn5 y3 y4 = some os1 ∧ ∃ (Ay3 : Option Addr), ∃ (cy3 : Nat), ∃ (Cy3 : Chunk), L' = [(0, .slice Ay3 y3.length cy3), (1, .int .i64 a1), (2, .int .i64 y4)] ∧ G = G' ∧ Cy3 :: Γ = Γ' ∧ Ow (kInt .u8) G Ay3 cy3 y3 Cy3) ?_ k ⟨l0, a2, h, Al0, cl0, Cl0, rfl, rfl, rfl, Hl0⟩
    clear h
    rintro kn6 _ _ _ ⟨y3, y4, h, Ay3, cy3, Cy3, rfl, rfl, rfl, Hy3⟩
    cases kn6 with
    | zero => exact absurd h (by simp [record_put_l0])
    | succ kn6 =>
      simp only [record_put_l0] at h
      refine WP.seq ?_
      refine WP.seqP [0, 1, 2, 8] (L' := [(0, .slice Ay3 y3.length cy3), (1, .int .i64 a1), (2, .int .i64 y4), (8, .bool (decide (y4 > 0)))]) (by kernel_rfl) ?_
      refine WP.cond (b := decide (y4 > 0)) (by kernel_rfl) (fun hc => ?_) (fun hc => ?_)
      · replace hc := of_decide_eq_true hc
        rw [if_pos hc] at h
        have hc7 := hc
        clear hc
        refine WP.skip ?_
        refine QP.next ?_
        refine WP.pick [0, 1, 2] ?_
        refine WP.block ?_
        refine WP.seqP [0, 1, 2] (L' := [(0, .slice Ay3 y3.length cy3), (1, .int .i64 a1), (2, .int .i64 (IntKind.i64.wrap (y4 - 1)))]) (by kernel_rfl) ?_
        refine WP.region ?_
        refine WL.pure 0 4 [0, 1, 2, 11, 12, 14] (L' := [(0, .slice Ay3 y3.length cy3), (1, .int .i64 a1), (2, .int .i64 (IntKind.i64.wrap (y4 - 1))), (11, .slice Ay3 y3.length cy3), (12, .int .i64 a1), (14, .int .i64 (IntKind.i64.wrap (8 * (IntKind.i64.wrap (y4 - 1)))))]) (by kernel_rfl) (by decide) ?_
        by_cases hb8 : 0 ≤ (IntKind.i64.wrap (8 * (IntKind.i64.wrap (y4 - 1))))
        case neg => rw [if_neg hb8] at h; cases h
        rw [if_pos hb8] at h
        refine WL.tell (op := .binOp .shr 3 (.tmp 12) (.tmp 14) 3) (ty := 3) (d := some 15) (g := none) (by kernel_rfl) (by kernel_rfl) (by kernel_rfl) (Tells.shr (k := .i64) (k' := .i64) (a := a1) (b := (IntKind.i64.wrap (8 * (IntKind.i64.wrap (y4 - 1))))) (by kernel_rfl) (by kernel_rfl) hb8) ?_
        refine WL.pure 5 6 [0, 1, 2, 11, 16] (L' := [(0, .slice Ay3 y3.length cy3), (1, .int .i64 a1), (2, .int .i64 (IntKind.i64.wrap (y4 - 1))), (11, .slice Ay3 y3.length cy3), (16, .int .u8 (IntKind.u8.wrap (shrK .i64 a1 (IntKind.i64.wrap (8 * (IntKind.i64.wrap (y4 - 1)))))))]) (by kernel_rfl) (by decide) ?_
        refine WL.op (op := .buildSlice 55 1 #[(0, (.tmp 16))]) (ty := 55) (d := some 17) (g := none) (by kernel_rfl) (by kernel_rfl) (by kernel_rfl) (Does.new (o := .cells #[.int .u8 (IntKind.u8.wrap (shrK .i64 a1 (IntKind.i64.wrap (8 * (IntKind.i64.wrap (y4 - 1))))))] 5 (0, 0)) (v := fun r => .slice (some ⟨r, 0, none⟩) 1 1) (fun r => by kernel_rfl)) ?_
        rintro _ _ _ ⟨b9, rfl, rfl, rfl⟩
        have Ho11 : Ow (kInt .u8) G (some ⟨b9, 0, none⟩) 1 ([IntKind.u8.wrap (shrK .i64 a1 (IntKind.i64.wrap (8 * (IntKind.i64.wrap (y4 - 1)))))] : List Int) [(b9, .cells #[.int .u8 (IntKind.u8.wrap (shrK .i64 a1 (IntKind.i64.wrap (8 * (IntKind.i64.wrap (y4 - 1))))))] 5 (0, 0))] := Ow.lit (kd := (kInt .u8)) (G := G) (b := b9) (T := 5) (xs := ([IntKind.u8.wrap (shrK .i64 a1 (IntKind.i64.wrap (8 * (IntKind.i64.wrap (y4 - 1)))))] : List Int)) (cs := [.int .u8 (IntKind.u8.wrap (shrK .i64 a1 (IntKind.i64.wrap (8 * (IntKind.i64.wrap (y4 - 1))))))]) (.cons (x := (IntKind.u8.wrap (shrK .i64 a1 (IntKind.i64.wrap (8 * (IntKind.i64.wrap (y4 - 1))))))) (cs := [.int .u8 (IntKind.u8.wrap (shrK .i64 a1 (IntKind.i64.wrap (8 * (IntKind.i64.wrap (y4 - 1))))))]) (by exact rfl) .nil)
        by_cases hb12 : y3.length + ([IntKind.u8.wrap (shrK .i64 a1 (IntKind.i64.wrap (8 * (IntKind.i64.wrap (y4 - 1)))))] : List Int).length ≤ 1073741824
        case neg => rw [if_neg hb12] at h; cases h
        rw [if_pos hb12] at h
        refine WL.op (op := .call { callee := (.builtin .append), args := #[(.tmp 11), (.tmp 17)], argTypes := #[55, 55] }) (ty := 55) (d := some 18) (g := none) (by kernel_rfl) (by kernel_rfl) (by kernel_rfl) (Ow.append (ys := ([IntKind.u8.wrap (shrK .i64 a1 (IntKind.i64.wrap (8 * (IntKind.i64.wrap (y4 - 1)))))] : List Int)) (v := .slice (some ⟨b9, 0, none⟩) ([IntKind.u8.wrap (shrK .i64 a1 (IntKind.i64.wrap (8 * (IntKind.i64.wrap (y4 - 1)))))] : List Int).length 1) Hy3 (i := 1) rfl (by kernel_rfl) (by kernel_rfl) (Ho11.src (i := 0) rfl) sl55 ze5 nt55 (by decide) hb12) ?_
        rintro _ _ _ ⟨rfl, AN13, cN13, CN13, rfl, HN13, rfl⟩
        refine WL.rest 8 [0, 1, 2] (L' := [(0, .slice AN13 (y3 ++ ([IntKind.u8.wrap (shrK .i64 a1 (IntKind.i64.wrap (8 * (IntKind.i64.wrap (y4 - 1)))))] : List Int)).length cN13), (1, .int .i64 a1), (2, .int .i64 (IntKind.i64.wrap (y4 - 1)))]) (by kernel_rfl) ?_
        refine QP.blockN ?_
        refine QP.dropAt 0 ?_
        refine QP.pick [0, 1, 2] ?_
        exact QP.meet ⟨kn6, Nat.lt_succ_self _, (y3 ++ ([IntKind.u8.wrap (shrK .i64 a1 (IntKind.i64.wrap (8 * (IntKind.i64.wrap (y4 - 1)))))] : List Int)), (IntKind.i64.wrap (y4 - 1)), h, AN13, cN13, CN13, rfl, rfl, rfl, HN13⟩
      · replace hc := of_decide_eq_false hc
        rw [if_neg hc] at h
        have hc7 := hc
        clear hc
        refine WP.exit ?_
        refine QP.thenE ?_
        refine QP.thenE ?_
        refine QP.blockE ?_
        refine QP.pick [0] ?_
        exact QP.meet ⟨_, Option.some.inj h, Ay3, cy3, Cy3, rfl, rfl, rfl, Hy3⟩
  · rintro _ _ _ ⟨s1, rfl, As1, cs1, Cs1, rfl, rfl, rfl, Hs1⟩
    clear h
    replace h := hk2
    refine WP.seqP [6] (L' := [(6, .slice As1 s1.length cs1)]) (by kernel_rfl) ?_
    refine WP.ret ?_
    obtain rfl := Option.some.inj h
    exact QP.returned [6] [.slice As1 s1.length cs1] _ (by kernel_rfl) (by kernel_rfl) (by kernel_rfl) (fun W hI => ⟨_, _, _, rfl, ⟨As1, cs1, Cs1, rfl, Hs1, rfl, rfl⟩, hI⟩)

/-! ### grapevine/record.Lay: function 56 -/
def record_Lay (k : Nat) (a0 : T36) : Option ((List Int) × Int) := ((record_May a0).bind fun t2 => (if (!t2) = true then some (([] : List Int), 2) else ((record_put k ([] : List Int) a0.f0 1).bind fun t7 => ((record_put k t7 a0.f1 2).bind fun t11 => ((record_put k t11 a0.f2 6).bind fun t15 => ((record_put k t15 a0.f3 2).bind fun t19 => ((record_put k t19 (a0.f4.size : Int) 1).bind fun t23 => (if t23.length + (bytesOf a0.f4).length ≤ 1073741824 then some ((t23 ++ (bytesOf a0.f4)), 0) else none))))))))
set_option maxHeartbeats 4000000 in
theorem record_Lay_calls {B : World} {G : GMap} {Γ : List Chunk} {W : World} (HT : Tabs B G) (k : Nat) (a0 : T36) (r : (List Int) × Int) (h : record_Lay k a0 = some r) (hI : Inv B G (Γ) W) :
    Calls Tryd.prog 56 [.agg #[.int .i64 a0.f0, .int .i64 a0.f1, .int .i64 a0.f2, .int .i64 a0.f3, .string a0.f4]].toArray W (Ret B (fun v G' Γ' => ∃ (AR0 : Option Addr), ∃ (cR0 : Nat), ∃ (CR0 : Chunk), v = .tuple #[.slice AR0 r.1.length cR0, .int .i64 r.2] ∧ Ow (kInt .u8) G' AR0 cR0 r.1 CR0 ∧ G = G' ∧ CR0 :: Γ = Γ')) := by
  refine calls_WP (Γ := Γ) (G := G) (B := B) Tryd.func56 rfl (by kernel_rfl) ?_ hI
  clear hI
  unfold record_Lay at h
  refine WP.seqR ?_
  refine WL.op (op := .box 36 (.tmp 0)) (ty := 0) (d := some 1) (g := none) (by kernel_rfl) (by kernel_rfl) (by kernel_rfl) (Does.new (o := .cells #[.int .i64 a0.f0, .int .i64 a0.f1, .int .i64 a0.f2, .int .i64 a0.f3, .string a0.f4] 36 (0, 0)) (v := fun r => .pointer (some ⟨r, 0, none⟩)) (fun r => by kernel_rfl)) ?_
  rintro _ _ _ ⟨b1, rfl, rfl, rfl⟩
  refine WL.restQ 1 [1] (L' := [(1, .pointer (some ⟨b1, 0, none⟩))]) (by kernel_rfl) ?_
  refine WP.seq ?_
  refine WP.seqR ?_
  refine WL.tell (op := .load 36 (.tmp 1)) (ty := 36) (d := some 5) (g := none) (by kernel_rfl) (by kernel_rfl) (by kernel_rfl) (Tells.load_box (i := 0) (b := b1) (o := 0) (agg := true) (by rfl) ag36 (by kernel_rfl) (fun h => by cases h) (Nat.le_of_ble_eq_true rfl) (v := .agg #[.int .i64 a0.f0, .int .i64 a0.f1, .int .i64 a0.f2, .int .i64 a0.f3, .string a0.f4]) (by kernel_rfl)) ?_
  rw [Option.bind_eq_some_iff] at h
  obtain ⟨t2, ht3, h⟩ := h
  refine WL.op (op := .call { callee := (.value (.func 70)), args := #[(.tmp 5)], argTypes := #[36] }) (ty := 4) (d := some 6) (g := none) (by kernel_rfl) (by kernel_rfl) (by kernel_rfl) (Does.call (f := 70) (args := [.agg #[.int .i64 a0.f0, .int .i64 a0.f1, .int .i64 a0.f2, .int .i64 a0.f3, .string a0.f4]]) (by kernel_rfl) (fun W hI => (record_May_calls HT a0  t2 ht3 hI))) ?_
  rintro _ _ _ ⟨rfl, rfl, rfl⟩
  refine WL.restQ 2 [1, 7] (L' := [(1, .pointer (some ⟨b1, 0, none⟩)), (7, .bool (!t2))]) (by kernel_rfl) ?_
  refine WP.cond (b := (!t2)) (by kernel_rfl) (fun hc => ?_) (fun hc => ?_)
  · replace hc := hc
    rw [if_pos hc] at h
    have hc6 := hc
    clear hc
    refine WP.seqP [2, 3] (L' := [(2, .slice none 0 0), (3, .int .i64 2)]) (by kernel_rfl) ?_
    refine WP.dropAt 0 ?_
    refine WP.ret ?_
    refine QP.thenR ?_
    obtain rfl := Option.some.inj h
    refine QP.addNil ?_
    exact QP.returned [2, 3] [.slice none ([] : List Int).length 0, .int .i64 2] _ (by kernel_rfl) (by kernel_rfl) (by kernel_rfl) (fun W hI => ⟨_, _, _, rfl, ⟨none, 0, [], rfl, (Ow.nil (kInt .u8) _), rfl, rfl⟩, hI⟩)
  · replace hc := (Bool.eq_false_iff.1 hc)
    rw [if_neg hc] at h
    have hc6 := hc
    clear hc
    refine WP.skip ?_
    refine QP.next ?_
    refine WP.pick [1] ?_
    refine WP.seq ?_
    refine WP.any (N := 9) (S := [⟨some 8, [1], []⟩, ⟨some 9, [8], [0]⟩, ⟨some 10, [9], [1]⟩, ⟨some 11, [10], [2]⟩, ⟨some 12, [1], []⟩, ⟨some 13, [12], [4]⟩, ⟨some 14, [13], [5]⟩, ⟨some 15, [11, 14], [3, 6]⟩, ⟨some 4, [15], [0, 1, 2, 3, 4, 5, 6, 7]⟩]) (kw := 9) (G0 := G) (Γ0 := [[(b1, .cells #[.int .i64 a0.f0, .int .i64 a0.f1, .int .i64 a0.f2, .int .i64 a0.f3, .string a0.f4] 36 (0, 0))]]) mo (by kernel_rfl) (fun hS => ?_)
    refine WA.pure [0, 1, 4, 5] [1, 9, 13] (m := 5) (b' := 51) (L' := [(1, .pointer (some ⟨b1, 0, none⟩)), (9, .pointer (some ⟨b1, 0, none⟩)), (13, .pointer (some ⟨b1, 1, none⟩))]) (by kernel_rfl) (NoPanic.then (NoPanic.body)) (Under.mem (C := [(b1, .cells #[.int .i64 a0.f0, .int .i64 a0.f1, .int .i64 a0.f2, .int .i64 a0.f3, .string a0.f4] 36 (0, 0))]) (by repeat first | exact List.Mem.head _ | apply List.Mem.tail)) hS (by kernel_rfl) ?_
    refine WA.tellD [] (i := 2) (m := 4) (b' := 55) (by kernel_rfl) (NoPanic.then (NoPanic.body)) (Under.mem (C := [(b1, .cells #[.int .i64 a0.f0, .int .i64 a0.f1, .int .i64 a0.f2, .int .i64 a0.f3, .string a0.f4] 36 (0, 0))]) (by repeat first | exact List.Mem.head _ | apply List.Mem.tail)) hS (by kernel_rfl) (op := .load 3 (.tmp 9)) (ty := 3) (d := some 10) (g := none) (by kernel_rfl) (by kernel_rfl) (by kernel_rfl) (Tells.load_box (i := 0) (b := b1) (o := 0) (agg := false) (by rfl) ag3 (by kernel_rfl) (fun _ => rfl) (Nat.le_of_ble_eq_true rfl) (v := .int .i64 a0.f0) (by kernel_rfl)) ?_
    refine WA.tellD [] (i := 6) (m := 3) (b' := 119) (by kernel_rfl) (NoPanic.then (NoPanic.body)) (Under.mem (C := [(b1, .cells #[.int .i64 a0.f0, .int .i64 a0.f1, .int .i64 a0.f2, .int .i64 a0.f3, .string a0.f4] 36 (0, 0))]) (by repeat first | exact List.Mem.head _ | apply List.Mem.tail)) hS (by kernel_rfl) (op := .load 3 (.tmp 13)) (ty := 3) (d := some 14) (g := none) (by kernel_rfl) (by kernel_rfl) (by kernel_rfl) (Tells.load_box (i := 0) (b := b1) (o := 1) (agg := false) (by rfl) ag3 (by kernel_rfl) (fun _ => rfl) (Nat.le_of_ble_eq_true rfl) (v := .int .i64 a0.f1) (by kernel_rfl)) ?_
    refine WA.addNil ?_
    rw [Option.bind_eq_some_iff] at h
    obtain ⟨t7, ht8, h⟩ := h
    refine WA.op (i := 3) (m := 2) (b' := 127) (by kernel_rfl) hS (by kernel_rfl) (op := .call { callee := (.value (.func 81)), args := #[(.const (.slice none 0 0)), (.tmp 10), (.const (.int .i64 1))], argTypes := #[55, 3, 3] }) (ty := 55) (d := some 11) (g := none) (by kernel_rfl) (by kernel_rfl) (by kernel_rfl) (Does.call (f := 81) (args := [.slice none ([] : List Int).length 0, .int .i64 a0.f0, .int .i64 1]) (by kernel_rfl) (fun W hI => (record_put_calls k ([] : List Int) a0.f0 1 none 0 [] (Ow.nil (kInt .u8) G) t7 ht8 hI))) ?_
    rintro _ _ _ ⟨AR9, cR9, CR9, rfl, HR9, rfl, rfl⟩
    refine ⟨_, _, Under.refl, (Under.mem (C := [(b1, .cells #[.int .i64 a0.f0, .int .i64 a0.f1, .int .i64 a0.f2, .int .i64 a0.f3, .string a0.f4] 36 (0, 0))]) (by repeat first | exact List.Mem.head _ | apply List.Mem.tail)), ?_⟩
    rw [Option.bind_eq_some_iff] at h
    obtain ⟨t11, ht12, h⟩ := h
    refine WA.op (i := 7) (m := 1) (b' := 255) (by kernel_rfl) hS (by kernel_rfl) (op := .call { callee := (.value (.func 81)), args := #[(.tmp 11), (.tmp 14), (.const (.int .i64 2))], argTypes := #[55, 3, 3] }) (ty := 55) (d := some 15) (g := none) (by kernel_rfl) (by kernel_rfl) (by kernel_rfl) (Does.call (f := 81) (args := [.slice AR9 t7.length cR9, .int .i64 a0.f1, .int .i64 2]) (by kernel_rfl) (fun W hI => (record_put_calls k t7 a0.f1 2 AR9 cR9 CR9 HR9 t11 ht12 hI))) ?_
    rintro _ _ _ ⟨AR13, cR13, CR13, rfl, HR13, rfl, rfl⟩
    refine ⟨_, _, Under.refl, (Under.mem (C := [(b1, .cells #[.int .i64 a0.f0, .int .i64 a0.f1, .int .i64 a0.f2, .int .i64 a0.f3, .string a0.f4] 36 (0, 0))]) (by repeat first | exact List.Mem.head _ | apply List.Mem.tail)), ?_⟩
    refine WA.pure [8] [1, 4] (m := 0) (b' := 511) (L' := [(1, .pointer (some ⟨b1, 0, none⟩)), (4, .slice AR13 t11.length cR13)]) (by kernel_rfl) (NoPanic.then (NoPanic.body)) (Under.mem (C := [(b1, .cells #[.int .i64 a0.f0, .int .i64 a0.f1, .int .i64 a0.f2, .int .i64 a0.f3, .string a0.f4] 36 (0, 0))]) (by repeat first | exact List.Mem.head _ | apply List.Mem.tail)) hS (by kernel_rfl) ?_
    refine WA.done hS (by kernel_rfl) ?_
    refine QP.pick [1, 4] ?_
    refine QP.next ?_
    refine WP.seq ?_
    refine WP.any (N := 14) (S := [⟨some 16, [4], []⟩, ⟨some 17, [1], []⟩, ⟨some 18, [17], [1]⟩, ⟨some 19, [18], [2]⟩, ⟨some 20, [16, 19], [0, 3]⟩, ⟨some 21, [1], []⟩, ⟨some 22, [21], [5]⟩, ⟨some 23, [22], [6]⟩, ⟨some 24, [20, 23], [4, 7]⟩, ⟨some 25, [1], []⟩, ⟨some 26, [25], [9]⟩, ⟨some 27, [26], [10]⟩, ⟨some 28, [24, 27], [8, 11]⟩, ⟨some 4, [28], [0, 1, 2, 3, 4, 5, 6, 7, 8, 9, 10, 11, 12]⟩]) (kw := 14) (G0 := G) (Γ0 := [[(b1, .cells #[.int .i64 a0.f0, .int .i64 a0.f1, .int .i64 a0.f2, .int .i64 a0.f3, .string a0.f4] 36 (0, 0))]]) mo (by kernel_rfl) (fun hS => ?_)
    refine WA.pure [0, 1, 2, 5, 6, 9] [1, 4, 16, 18, 22, 25] (m := 8) (b' := 615) (L' := [(1, .pointer (some ⟨b1, 0, none⟩)), (4, .slice AR13 t11.length cR13), (16, .slice AR13 t11.length cR13), (18, .pointer (some ⟨b1, 2, none⟩)), (22, .pointer (some ⟨b1, 3, none⟩)), (25, .pointer (some ⟨b1, 4, none⟩))]) (by kernel_rfl) (NoPanic.then (NoPanic.body)) (Under.mem (C := [(b1, .cells #[.int .i64 a0.f0, .int .i64 a0.f1, .int .i64 a0.f2, .int .i64 a0.f3, .string a0.f4] 36 (0, 0))]) (by repeat first | exact List.Mem.head _ | apply List.Mem.tail)) hS (by kernel_rfl) ?_
    refine WA.tellD [] (i := 3) (m := 7) (b' := 623) (by kernel_rfl) (NoPanic.then (NoPanic.body)) (Under.mem (C := [(b1, .cells #[.int .i64 a0.f0, .int .i64 a0.f1, .int .i64 a0.f2, .int .i64 a0.f3, .string a0.f4] 36 (0, 0))]) (by repeat first | exact List.Mem.head _ | apply List.Mem.tail)) hS (by kernel_rfl) (op := .load 3 (.tmp 18)) (ty := 3) (d := some 19) (g := none) (by kernel_rfl) (by kernel_rfl) (by kernel_rfl) (Tells.load_box (i := 0) (b := b1) (o := 2) (agg := false) (by rfl) ag3 (by kernel_rfl) (fun _ => rfl) (Nat.le_of_ble_eq_true rfl) (v := .int .i64 a0.f2) (by kernel_rfl)) ?_
    refine WA.tellD [] (i := 7) (m := 6) (b' := 751) (by kernel_rfl) (NoPanic.then (NoPanic.body)) (Under.mem (C := [(b1, .cells #[.int .i64 a0.f0, .int .i64 a0.f1, .int .i64 a0.f2, .int .i64 a0.f3, .string a0.f4] 36 (0, 0))]) (by repeat first | exact List.Mem.head _ | apply List.Mem.tail)) hS (by kernel_rfl) (op := .load 3 (.tmp 22)) (ty := 3) (d := some 23) (g := none) (by kernel_rfl) (by kernel_rfl) (by kernel_rfl) (Tells.load_box (i := 0) (b := b1) (o := 3) (agg := false) (by rfl) ag3 (by kernel_rfl) (fun _ => rfl) (Nat.le_of_ble_eq_true rfl) (v := .int .i64 a0.f3) (by kernel_rfl)) ?_
    refine WA.tellD [] (i := 10) (m := 5) (b' := 1775) (by kernel_rfl) (NoPanic.then (NoPanic.body)) (Under.mem (C := [(b1, .cells #[.int .i64 a0.f0, .int .i64 a0.f1, .int .i64 a0.f2, .int .i64 a0.f3, .string a0.f4] 36 (0, 0))]) (by repeat first | exact List.Mem.head _ | apply List.Mem.tail)) hS (by kernel_rfl) (op := .load 9 (.tmp 25)) (ty := 9) (d := some 26) (g := none) (by kernel_rfl) (by kernel_rfl) (by kernel_rfl) (Tells.load_box (i := 0) (b := b1) (o := 4) (agg := false) (by rfl) ag9 (by kernel_rfl) (fun _ => rfl) (Nat.le_of_ble_eq_true rfl) (v := .string a0.f4) (by kernel_rfl)) ?_
    refine WA.pure [11] [1, 4, 16, 19, 23, 27] (m := 4) (b' := 3823) (L' := [(1, .pointer (some ⟨b1, 0, none⟩)), (4, .slice AR13 t11.length cR13), (16, .slice AR13 t11.length cR13), (19, .int .i64 a0.f2), (23, .int .i64 a0.f3), (27, .int .i64 (a0.f4.size : Int))]) (by kernel_rfl) (NoPanic.then (NoPanic.body)) (Under.mem (C := [(b1, .cells #[.int .i64 a0.f0, .int .i64 a0.f1, .int .i64 a0.f2, .int .i64 a0.f3, .string a0.f4] 36 (0, 0))]) (by repeat first | exact List.Mem.head _ | apply List.Mem.tail)) hS (by kernel_rfl) ?_
    rw [Option.bind_eq_some_iff] at h
    obtain ⟨t15, ht16, h⟩ := h
    refine WA.op (i := 4) (m := 3) (b' := 3839) (by kernel_rfl) hS (by kernel_rfl) (op := .call { callee := (.value (.func 81)), args := #[(.tmp 16), (.tmp 19), (.const (.int .i64 6))], argTypes := #[55, 3, 3] }) (ty := 55) (d := some 20) (g := none) (by kernel_rfl) (by kernel_rfl) (by kernel_rfl) (Does.call (f := 81) (args := [.slice AR13 t11.length cR13, .int .i64 a0.f2, .int .i64 6]) (by kernel_rfl) (fun W hI => (record_put_calls k t11 a0.f2 6 AR13 cR13 CR13 HR13 t15 ht16 hI))) ?_
    rintro _ _ _ ⟨AR17, cR17, CR17, rfl, HR17, rfl, rfl⟩
    refine ⟨_, _, Under.refl, (Under.mem (C := [(b1, .cells #[.int .i64 a0.f0, .int .i64 a0.f1, .int .i64 a0.f2, .int .i64 a0.f3, .string a0.f4] 36 (0, 0))]) (by repeat first | exact List.Mem.head _ | apply List.Mem.tail)), ?_⟩
    rw [Option.bind_eq_some_iff] at h
    obtain ⟨t19, ht20, h⟩ := h
    refine WA.op (i := 8) (m := 2) (b' := 4095) (by kernel_rfl) hS (by kernel_rfl) (op := .call { callee := (.value (.func 81)), args := #[(.tmp 20), (.tmp 23), (.const (.int .i64 2))], argTypes := #[55, 3, 3] }) (ty := 55) (d := some 24) (g := none) (by kernel_rfl) (by kernel_rfl) (by kernel_rfl) (Does.call (f := 81) (args := [.slice AR17 t15.length cR17, .int .i64 a0.f3, .int .i64 2]) (by kernel_rfl) (fun W hI => (record_put_calls k t15 a0.f3 2 AR17 cR17 CR17 HR17 t19 ht20 hI))) ?_
    rintro _ _ _ ⟨AR21, cR21, CR21, rfl, HR21, rfl, rfl⟩
    refine ⟨_, _, Under.refl, (Under.mem (C := [(b1, .cells #[.int .i64 a0.f0, .int .i64 a0.f1, .int .i64 a0.f2, .int .i64 a0.f3, .string a0.f4] 36 (0, 0))]) (by repeat first | exact List.Mem.head _ | apply List.Mem.tail)), ?_⟩
    rw [Option.bind_eq_some_iff] at h
    obtain ⟨t23, ht24, h⟩ := h
    refine WA.op (i := 12) (m := 1) (b' := 8191) (by kernel_rfl) hS (by kernel_rfl) (op := .call { callee := (.value (.func 81)), args := #[(.tmp 24), (.tmp 27), (.const (.int .i64 1))], argTypes := #[55, 3, 3] }) (ty := 55) (d := some 28) (g := none) (by kernel_rfl) (by kernel_rfl) (by kernel_rfl) (Does.call (f := 81) (args := [.slice AR21 t19.length cR21, .int .i64 (a0.f4.size : Int), .int .i64 1]) (by kernel_rfl) (fun W hI => (record_put_calls k t19 (a0.f4.size : Int) 1 AR21 cR21 CR21 HR21 t23 ht24 hI))) ?_
    rintro _ _ _ ⟨AR25, cR25, CR25, rfl, HR25, rfl, rfl⟩
    refine ⟨_, _, Under.refl, (Under.mem (C := [(b1, .cells #[.int .i64 a0.f0, .int .i64 a0.f1, .int .i64 a0.f2, .int .i64 a0.f3, .string a0.f4] 36 (0, 0))]) (by repeat first | exact List.Mem.head _ | apply List.Mem.tail)), ?_⟩
    refine WA.pure [13] [1, 4] (m := 0) (b' := 16383) (L' := [(1, .pointer (some ⟨b1, 0, none⟩)), (4, .slice AR25 t23.length cR25)]) (by kernel_rfl) (NoPanic.then (NoPanic.body)) (Under.mem (C := [(b1, .cells #[.int .i64 a0.f0, .int .i64 a0.f1, .int .i64 a0.f2, .int .i64 a0.f3, .string a0.f4] 36 (0, 0))]) (by repeat first | exact List.Mem.head _ | apply List.Mem.tail)) hS (by kernel_rfl) ?_
    refine WA.done hS (by kernel_rfl) ?_
    refine QP.pick [1, 4] ?_
    refine QP.next ?_
    refine WP.seqR ?_
    refine WL.pure 0 2 [29, 30] (L' := [(29, .slice AR25 t23.length cR25), (30, .pointer (some ⟨b1, 4, none⟩))]) (by kernel_rfl) (by decide) ?_
    refine WL.tell (op := .load 9 (.tmp 30)) (ty := 9) (d := some 31) (g := none) (by kernel_rfl) (by kernel_rfl) (by kernel_rfl) (Tells.load_box (i := 1) (b := b1) (o := 4) (agg := false) (by rfl) ag9 (by kernel_rfl) (fun _ => rfl) (Nat.le_of_ble_eq_true rfl) (v := .string a0.f4) (by kernel_rfl)) ?_
    by_cases hb27 : t23.length + (bytesOf a0.f4).length ≤ 1073741824
    case neg => rw [if_neg hb27] at h; cases h
    rw [if_pos hb27] at h
    refine WL.op (op := .call { callee := (.builtin .append), args := #[(.tmp 29), (.tmp 31)], argTypes := #[55, 9] }) (ty := 55) (d := some 32) (g := none) (by kernel_rfl) (by kernel_rfl) (by kernel_rfl) (Ow.append (ys := (bytesOf a0.f4)) (v := .string a0.f4) HR25 (i := 0) rfl (by kernel_rfl) (by kernel_rfl) (Src.str a0.f4) sl55 ze5 nt9 (by decide) hb27) ?_
    rintro _ _ _ ⟨rfl, AN28, cN28, CN28, rfl, HN28, rfl⟩
    refine WL.restQ 4 [2, 3] (L' := [(2, .slice AN28 (t23 ++ (bytesOf a0.f4)).length cN28), (3, .int .i64 0)]) (by kernel_rfl) ?_
    refine WP.dropAt 1 ?_
    refine WP.ret ?_
    obtain rfl := Option.some.inj h
    exact QP.returned [2, 3] [.slice AN28 (t23 ++ (bytesOf a0.f4)).length cN28, .int .i64 0] _ (by kernel_rfl) (by kernel_rfl) (by kernel_rfl) (fun W hI => ⟨_, _, _, rfl, ⟨AN28, cN28, CN28, rfl, HN28, rfl, rfl⟩, hI⟩)

/-! ### grapevine/digest.Of: function 57 -/
def digest_Of_l1 (l0 : List (List Int)) (y4 : Int) : Nat → Int → Int → Option Int
  | 0, _, _ => none
  | k + 1, y12, y13 => (if y13 < ((l0.getD y4.toNat []).length : Int) then (if 0 ≤ y13 ∧ y13 < ((l0.getD y4.toNat []).length : Int) then ((some ((l0.getD y4.toNat []).getD y13.toNat 0)).bind fun v18 => digest_Of_l1 l0 y4 k (IntKind.u64.wrap ((Go.bits .xor .u64 y12 (IntKind.u64.wrap v18)) * 1099511628211)) (IntKind.i64.wrap (y13 + 1))) else none) else some y12)
def digest_Of_l0 (l0 : List (List Int)) : Nat → Int → Int → Option Int
  | 0, _, _ => none
  | k + 1, y3, y4 => (if y4 < (l0.length : Int) then (if 0 ≤ y4 ∧ y4 < (l0.length : Int) then ((digest_Of_l1 l0 y4 k y3 0).bind fun s10 => digest_Of_l0 l0 k s10 (IntKind.i64.wrap (y4 + 1))) else none) else some y3)
def digest_Of (k : Nat) (l0 : List (List Int)) : Option Int := ((digest_Of_l0 l0 k 14695981039346656037 0).bind fun s1 => some s1)
set_option maxHeartbeats 4000000 in
theorem digest_Of_calls {B : World} {G : GMap} {Γ : List Chunk} {W : World} (k : Nat) (l0 : List (List Int)) (Al0 : Option Addr) (cl0 : Nat) (Hl0 : Rd (kSlice (kInt .u8)) G Al0 cl0 l0) (r : Int) (h : digest_Of k l0 = some r) (hI : Inv B G (Γ) W) :
    Calls Tryd.prog 57 [.slice Al0 l0.length cl0].toArray W (Ret B (fun v G' Γ' => v = .int .u64 r ∧ G = G' ∧ Γ = Γ')) := by
  refine calls_WP (Γ := Γ) (G := G) (B := B) Tryd.func57 rfl (by kernel_rfl) ?_ hI
  clear hI
  unfold digest_Of at h
  refine WP.seqP [0] (L' := [(0, .slice Al0 l0.length cl0)]) (by kernel_rfl) ?_
  refine WP.seqP [0, 3] (L' := [(0, .slice Al0 l0.length cl0), (3, .int .u64 14695981039346656037)]) (by kernel_rfl) ?_
  refine WP.seq ?_
  refine WP.seqP [3, 8, 9, 10] (L' := [(3, .int .u64 14695981039346656037), (8, .slice Al0 l0.length cl0), (9, .int .i64 (l0.length : Int)), (10, .int .i64 0)]) (by kernel_rfl) ?_
  rw [Option.bind_eq_some_iff] at h
  obtain ⟨os1, h, hk2⟩ := h
  refine WP.cutQ (fun L' G' Γ' => ∃ s1 : Int, s1 = os1 ∧ L' = [(3, .int .u64 s1)] ∧ G = G' ∧ Γ = Γ') ?_ ?_
  · clear hk2
    refine WP.block ?_
    refine WP.pick [3, 8, 9, 10] ?_
    refine WP.loopF (fun kn5 L' G' Γ' => ∃ (y3 : Int), ∃ (y4 : Int), digest_Of_l0 l0 kn5 y3 y4 = some os1 ∧ L' = [(3, .int .u64 y3), (8, .slice Al0 l0.length cl0), (9, .int .i64 (l0.length : Int)), (10, .int .i64 y4)] ∧ G = G' ∧ Γ = Γ') ?_ k ⟨14695981039346656037, 0, h, rfl, rfl, rfl⟩
    clear h
    rintro kn6 _ _ _ ⟨y3, y4, h, rfl, rfl, rfl⟩
    cases kn6 with
    | zero => exact absurd h (by simp [digest_Of_l0])
    | succ kn6 =>
      simp only [digest_Of_l0] at h
      refine WP.seqP [3, 8, 9, 10, 11] (L' := [(3, .int .u64 y3), (8, .slice Al0 l0.length cl0), (9, .int .i64 (l0.length : Int)), (10, .int .i64 y4), (11, .bool (decide (y4 < (l0.length : Int))))]) (by kernel_rfl) ?_
      refine WP.seq ?_
      refine WP.cond (b := decide (y4 < (l0.length : Int))) (by kernel_rfl) (fun hc => ?_) (fun hc => ?_)
      · replace hc := of_decide_eq_true hc
        rw [if_pos hc] at h
        have hc7 := hc
        clear hc
        refine WP.skip ?_
        refine QP.next ?_
        refine WP.pick [3, 8, 9, 10] ?_
        refine WP.seq ?_
        refine WP.block ?_
        refine WP.seqR ?_
        by_cases hb8 : 0 ≤ y4 ∧ y4 < (l0.length : Int)
        case neg => rw [if_neg hb8] at h; cases h
        rw [if_pos hb8] at h
        refine WL.tell (op := .indexAddr 114 (.tmp 8) (.tmp 10)) (ty := 0) (d := some 12) (g := none) (by kernel_rfl) (by kernel_rfl) (by kernel_rfl) (Tells.indexAddr (A := Al0) (n := l0.length) (c := cl0) (k := .i64) (j := y4) (by kernel_rfl) (by kernel_rfl) (Hl0.isSome hb8.1 hb8.2) hb8.1 hb8.2 sl114) ?_
        refine WL.tellE (op := .load 55 (.tmp 12)) (ty := 55) (d := some 13) (g := none) (by kernel_rfl) (by kernel_rfl) (by kernel_rfl) (Hl0.load (agg := false) hb8.1 hb8.2 [] ag55 (fun _ => rfl) (by kernel_rfl)) ?_
        rintro _ ⟨Ae9, ce9, rfl, He9⟩
        refine WL.restQ 2 [3, 5, 8, 9, 10] (L' := [(3, .int .u64 y3), (5, .slice Ae9 (l0.getD y4.toNat []).length ce9), (8, .slice Al0 l0.length cl0), (9, .int .i64 (l0.length : Int)), (10, .int .i64 y4)]) (by kernel_rfl) ?_
        refine WP.seqP [3, 8, 9, 10, 14, 15, 16] (L' := [(3, .int .u64 y3), (8, .slice Al0 l0.length cl0), (9, .int .i64 (l0.length : Int)), (10, .int .i64 y4), (14, .slice Ae9 (l0.getD y4.toNat []).length ce9), (15, .int .i64 ((l0.getD y4.toNat []).length : Int)), (16, .int .i64 0)]) (by kernel_rfl) ?_
        rw [Option.bind_eq_some_iff] at h
        obtain ⟨os10, h, hk11⟩ := h
        refine WP.cutQ (fun L' G' Γ' => ∃ s10 : Int, s10 = os10 ∧ L' = [(3, .int .u64 s10), (8, .slice Al0 l0.length cl0), (9, .int .i64 (l0.length : Int)), (10, .int .i64 y4)] ∧ G = G' ∧ Γ = Γ') ?_ ?_
        · clear hk11
          refine WP.block ?_
          refine WP.pick [3, 8, 9, 10, 14, 15, 16] ?_
          refine WP.loopF (fun kn14 L' G' Γ' => ∃ (y12 : Int), ∃ (y13 : Int), digest_Of_l1 l0 y4 kn14 y12 y13 = some os10 ∧ L' = [(3, .int .u64 y12), (8, .slice Al0 l0.length cl0), (9, .int .i64 (l0.length : Int)), (10, .int .i64 y4), (14, .slice Ae9 (l0.getD y4.toNat []).length ce9), (15, .int .i64 ((l0.getD y4.toNat []).length : Int)), (16, .int .i64 y13)] ∧ G = G' ∧ Γ = Γ') ?_ kn6 ⟨y3, 0, h, rfl, rfl, rfl⟩
          clear h
          rintro kn15 _ _ _ ⟨y12, y13, h, rfl, rfl, rfl⟩
          cases kn15 with
          | zero => exact absurd h (by simp [digest_Of_l1])
          | succ kn15 =>
            simp only [digest_Of_l1] at h
            refine WP.seqP [3, 8, 9, 10, 14, 15, 16, 17] (L' := [(3, .int .u64 y12), (8, .slice Al0 l0.length cl0), (9, .int .i64 (l0.length : Int)), (10, .int .i64 y4), (14, .slice Ae9 (l0.getD y4.toNat []).length ce9), (15, .int .i64 ((l0.getD y4.toNat []).length : Int)), (16, .int .i64 y13), (17, .bool (decide (y13 < ((l0.getD y4.toNat []).length : Int))))]) (by kernel_rfl) ?_
            refine WP.seq ?_
            refine WP.cond (b := decide (y13 < ((l0.getD y4.toNat []).length : Int))) (by kernel_rfl) (fun hc => ?_) (fun hc => ?_)
            · replace hc := of_decide_eq_true hc
              rw [if_pos hc] at h
              have hc16 := hc
              clear hc
              refine WP.skip ?_
              refine QP.next ?_
              refine WP.pick [3, 8, 9, 10, 14, 15, 16] ?_
              refine WP.seq ?_
              refine WP.block ?_
              refine WP.seqR ?_
              by_cases hb17 : 0 ≤ y13 ∧ y13 < ((l0.getD y4.toNat []).length : Int)
              case neg => rw [if_neg hb17] at h; cases h
              rw [if_pos hb17] at h
              refine WL.tell (op := .indexAddr 55 (.tmp 14) (.tmp 16)) (ty := 0) (d := some 18) (g := none) (by kernel_rfl) (by kernel_rfl) (by kernel_rfl) (Tells.indexAddr (A := Ae9) (n := (l0.getD y4.toNat []).length) (c := ce9) (k := .i64) (j := y13) (by kernel_rfl) (by kernel_rfl) (He9.isSome hb17.1 hb17.2) hb17.1 hb17.2 sl55) ?_
              refine WL.tellE (op := .load 5 (.tmp 18)) (ty := 5) (d := some 19) (g := none) (by kernel_rfl) (by kernel_rfl) (by kernel_rfl) (He9.load (agg := false) hb17.1 hb17.2 0 ag5 (fun _ => rfl) (by kernel_rfl)) ?_
              rintro _ rfl
              refine WL.restQ 2 [3, 7, 8, 9, 10, 14, 15, 16] (L' := [(3, .int .u64 y12), (7, .int .u8 ((l0.getD y4.toNat []).getD y13.toNat 0)), (8, .slice Al0 l0.length cl0), (9, .int .i64 (l0.length : Int)), (10, .int .i64 y4), (14, .slice Ae9 (l0.getD y4.toNat []).length ce9), (15, .int .i64 ((l0.getD y4.toNat []).length : Int)), (16, .int .i64 y13)]) (by kernel_rfl) ?_
              obtain ⟨v18, hv19, h⟩ := Option.bind_eq_some_iff.1 h
              replace hv19 := Option.some.inj hv19
              refine WP.reput 7 (v := .int .u8 ((l0.getD y4.toNat []).getD y13.toNat 0)) (v' := .int .u8 v18) (by kernel_rfl) (by subst hv19; rfl) ?_
              refine WP.pick [3, 7, 8, 9, 10, 14, 15, 16] ?_
              refine WP.regionP [3, 8, 9, 10, 14, 15, 16] (L' := [(3, .int .u64 (IntKind.u64.wrap ((Go.bits .xor .u64 y12 (IntKind.u64.wrap v18)) * 1099511628211))), (8, .slice Al0 l0.length cl0), (9, .int .i64 (l0.length : Int)), (10, .int .i64 y4), (14, .slice Ae9 (l0.getD y4.toNat []).length ce9), (15, .int .i64 ((l0.getD y4.toNat []).length : Int)), (16, .int .i64 y13)]) (by kernel_rfl) ?_
              refine QP.blockN ?_
              refine QP.next ?_
              refine WP.pick [3, 8, 9, 10, 14, 15, 16] ?_
              refine WP.regionP [3, 8, 9, 10, 14, 15, 16] (L' := [(3, .int .u64 (IntKind.u64.wrap ((Go.bits .xor .u64 y12 (IntKind.u64.wrap v18)) * 1099511628211))), (8, .slice Al0 l0.length cl0), (9, .int .i64 (l0.length : Int)), (10, .int .i64 y4), (14, .slice Ae9 (l0.getD y4.toNat []).length ce9), (15, .int .i64 ((l0.getD y4.toNat []).length : Int)), (16, .int .i64 (IntKind.i64.wrap (y13 + 1)))]) (by kernel_rfl) ?_
              refine QP.pick [3, 8, 9, 10, 14, 15, 16] ?_
              exact QP.meet ⟨kn15, Nat.lt_succ_self _, (IntKind.u64.wrap ((Go.bits .xor .u64 y12 (IntKind.u64.wrap v18)) * 1099511628211)), (IntKind.i64.wrap (y13 + 1)), h, rfl, rfl, rfl⟩
            · replace hc := of_decide_eq_false hc
              rw [if_neg hc] at h
              have hc16 := hc
              clear hc
              refine WP.exit ?_
              refine QP.thenE ?_
              refine QP.thenE ?_
              refine QP.blockE ?_
              refine QP.pick [3, 8, 9, 10] ?_
              exact QP.meet ⟨_, Option.some.inj h, rfl, rfl, rfl⟩
        · rintro _ _ _ ⟨s10, rfl, rfl, rfl, rfl⟩
          clear h
          replace h := hk11
          refine QP.blockN ?_
          refine QP.next ?_
          refine WP.pick [3, 8, 9, 10] ?_
          refine WP.regionP [3, 8, 9, 10] (L' := [(3, .int .u64 s10), (8, .slice Al0 l0.length cl0), (9, .int .i64 (l0.length : Int)), (10, .int .i64 (IntKind.i64.wrap (y4 + 1)))]) (by kernel_rfl) ?_
          refine QP.pick [3, 8, 9, 10] ?_
          exact QP.meet ⟨kn6, Nat.lt_succ_self _, s10, (IntKind.i64.wrap (y4 + 1)), h, rfl, rfl, rfl⟩
      · replace hc := of_decide_eq_false hc
        rw [if_neg hc] at h
        have hc7 := hc
        clear hc
        refine WP.exit ?_
        refine QP.thenE ?_
        refine QP.thenE ?_
        refine QP.blockE ?_
        refine QP.pick [3] ?_
        exact QP.meet ⟨_, Option.some.inj h, rfl, rfl, rfl⟩
  · rintro _ _ _ ⟨s1, rfl, rfl, rfl, rfl⟩
    clear h
    replace h := hk2
    refine QP.next ?_
    refine WP.pick [3] ?_
    refine WP.seqP [2] (L' := [(2, .int .u64 s1)]) (by kernel_rfl) ?_
    refine WP.ret ?_
    obtain rfl := Option.some.inj h
    exact QP.returned [2] [.int .u64 s1] _ (by kernel_rfl) (by kernel_rfl) (by kernel_rfl) (fun W hI => ⟨_, _, _, rfl, ⟨rfl, rfl, rfl⟩, hI⟩)

/-! ### (*grapevine/tree.Tree).count: function 54 -/
def tree_Tree_count_l0 (a1 : T32) (a2 : Int) : Nat → Int → Int → T97 → Option T97
  | 0, _, _, _ => none
  | k + 1, y4, y5, y6 => (if y5 ≥ 0 then ((some (⟨y6.f0, (mput y6.f1 (⟨a1.f0, y5, y4⟩ : T130) (IntKind.i64.wrap (((mget y6.f1 (⟨a1.f0, y5, y4⟩ : T130)).getD 0) + a2)))⟩ : T97)).bind fun s10 => tree_Tree_count_l0 a1 a2 k (IntKind.i64.wrap (Int.tdiv y4 4)) (IntKind.i64.wrap (y5 - 1)) s10) else some y6)
def tree_Tree_count (k : Nat) (a0 : T97) (a1 : T32) (a2 : Int) : Option T97 := ((tree_Tree_count_l0 a1 a2 k a1.f1 5 a0).bind fun s2 => some s2)
set_option maxHeartbeats 4000000 in
theorem tree_Tree_count_calls {B : World} {G : GMap} {Γ : List Chunk} {W : World} (k : Nat) (a0 : T97) (a1 : T32) (a2 : Int) (b0 : Nat) (Aa0_f0 : Option Addr) (ca0_f0 : Nat) (Ca0_f0 : Chunk) (Ha0_f0 : MpO m94 G Aa0_f0 ca0_f0 a0.f0 Ca0_f0) (Aa0_f1 : Option Addr) (ca0_f1 : Nat) (Ca0_f1 : Chunk) (Ha0_f1 : MpO m95 G Aa0_f1 ca0_f1 a0.f1 Ca0_f1) (r : T97) (h : tree_Tree_count k a0 a1 a2 = some r) (hI : Inv B G ([(b0, .cells #[mpv Aa0_f0, mpv Aa0_f1] 97 (0, 0))] :: Ca0_f0 :: Ca0_f1 :: Γ) W) :
    Calls Tryd.prog 54 [.pointer (some ⟨b0, 0, none⟩), .agg #[.int .i64 a1.f0, .int .i64 a1.f1], .int .i64 a2].toArray W (Ret B (fun v G' Γ' => ∃ (ARp0_0 : Option Addr), ∃ (cRp0_0 : Nat), ∃ (CRp0_0 : Chunk), ∃ (ARp0_1 : Option Addr), ∃ (cRp0_1 : Nat), ∃ (CRp0_1 : Chunk), v = .tuple #[] ∧ MpO m94 G' ARp0_0 cRp0_0 r.f0 CRp0_0 ∧ MpO m95 G' ARp0_1 cRp0_1 r.f1 CRp0_1 ∧ G = G' ∧ [(b0, .cells #[mpv ARp0_0, mpv ARp0_1] 97 (0, 0))] :: CRp0_0 :: CRp0_1 :: Γ = Γ')) := by
  refine calls_WP (Γ := [(b0, .cells #[mpv Aa0_f0, mpv Aa0_f1] 97 (0, 0))] :: Ca0_f0 :: Ca0_f1 :: Γ) (G := G) (B := B) Tryd.func54 rfl (by kernel_rfl) ?_ hI
  clear hI
  unfold tree_Tree_count at h
  refine WP.seqR ?_
  refine WL.op (op := .box 32 (.tmp 1)) (ty := 0) (d := some 4) (g := none) (by kernel_rfl) (by kernel_rfl) (by kernel_rfl) (Does.new (o := .cells #[.int .i64 a1.f0, .int .i64 a1.f1] 32 (0, 0)) (v := fun r => .pointer (some ⟨r, 0, none⟩)) (fun r => by kernel_rfl)) ?_
  rintro _ _ _ ⟨b1, rfl, rfl, rfl⟩
  refine WL.restQ 1 [0, 2, 4] (L' := [(0, .pointer (some ⟨b0, 0, none⟩)), (2, .int .i64 a2), (4, .pointer (some ⟨b1, 0, none⟩))]) (by kernel_rfl) ?_
  refine WP.seqR ?_
  refine WL.pure 0 1 [0, 2, 4, 8] (L' := [(0, .pointer (some ⟨b0, 0, none⟩)), (2, .int .i64 a2), (4, .pointer (some ⟨b1, 0, none⟩)), (8, .pointer (some ⟨b1, 1, none⟩))]) (by kernel_rfl) (by decide) ?_
  refine WL.tell (op := .load 3 (.tmp 8)) (ty := 3) (d := some 9) (g := none) (by kernel_rfl) (by kernel_rfl) (by kernel_rfl) (Tells.load_box (i := 0) (b := b1) (o := 1) (agg := false) (by rfl) ag3 (by kernel_rfl) (fun _ => rfl) (Nat.le_of_ble_eq_true rfl) (v := .int .i64 a1.f1) (by kernel_rfl)) ?_
  refine WL.restQ 2 [0, 2, 4, 6] (L' := [(0, .pointer (some ⟨b0, 0, none⟩)), (2, .int .i64 a2), (4, .pointer (some ⟨b1, 0, none⟩)), (6, .int .i64 a1.f1)]) (by kernel_rfl) ?_
  refine WP.seqP [0, 2, 4, 6, 7] (L' := [(0, .pointer (some ⟨b0, 0, none⟩)), (2, .int .i64 a2), (4, .pointer (some ⟨b1, 0, none⟩)), (6, .int .i64 a1.f1), (7, .int .i64 5)]) (by kernel_rfl) ?_
  rw [Option.bind_eq_some_iff] at h
  obtain ⟨os2, h, hk3⟩ := h
  refine WP.cutQ (fun L' G' Γ' => ∃ s2 : T97, s2 = os2 ∧ ∃ (As2_f0 : Option Addr), ∃ (cs2_f0 : Nat), ∃ (Cs2_f0 : Chunk), ∃ (As2_f1 : Option Addr), ∃ (cs2_f1 : Nat), ∃ (Cs2_f1 : Chunk), L' = [] ∧ G = G' ∧ [(b0, .cells #[mpv As2_f0, mpv As2_f1] 97 (0, 0))] :: Cs2_f0 :: Cs2_f1 :: Γ = Γ' ∧ MpO m94 G As2_f0 cs2_f0 s2.f0 Cs2_f0 ∧ MpO m95 G As2_f1 cs2_f1 s2.f1 Cs2_f1) ?_ ?_
  · clear hk3
    refine WP.block ?_
    refine WP.pick [0, 2, 4, 6, 7] ?_
    refine WP.loopF (fun kn7 L' G' Γ' => ∃ (y4 : Int), ∃ (y5 : Int), ∃ (y6 : T97), tree_Tree_count_l0 a1 a2 kn7 y4 y5 y6 = some os2 ∧ ∃ (Ay6_f0 : Option Addr), ∃ (cy6_f0 : Nat), ∃ (Cy6_f0 : Chunk), ∃ (Ay6_f1 : Option Addr), ∃ (cy6_f1 : Nat), ∃ (Cy6_f1 : Chunk), L' = [(0, .pointer (some ⟨b0, 0, none⟩)), (2, .int .i64 a2), (4, .pointer (some ⟨b1, 0, none⟩)), (6, .int .i64 y4), (7, .int .i64 y5)] ∧ G = G' ∧ [(b1, .cells #[.int .i64 a1.f0, .int .i64 a1.f1] 32 (0, 0))] :: [(b0, .cells #[mpv Ay6_f0, mpv Ay6_f1] 97 (0, 0))] :: Cy6_f0 :: Cy6_f1 :: Γ = Γ' ∧ MpO m94 G Ay6_f0 cy6_f0 y6.f0 Cy6_f0 ∧ MpO m95 G Ay6_f1 cy6_f1 y6.f1 Cy6_f1) ?_ k ⟨a1.f1, 5, a0, h, Aa0_f0, ca0_f0, Ca0_f0, Aa0_f1, ca0_f1, Ca0_f1, rfl, rfl, rfl, Ha0_f0, Ha0_f1⟩
    clear h
    rintro kn8 _ _ _ ⟨y4, y5, y6, h, Ay6_f0, cy6_f0, Cy6_f0, Ay6_f1, cy6_f1, Cy6_f1, rfl, rfl, rfl, Hy6_f0, Hy6_f1⟩
    cases kn8 with
    | zero => exact absurd h (by simp [tree_Tree_count_l0])
    | succ kn8 =>
      simp only [tree_Tree_count_l0] at h
      refine WP.seq ?_
      refine WP.seqP [0, 2, 4, 6, 7, 11] (L' := [(0, .pointer (some ⟨b0, 0, none⟩)), (2, .int .i64 a2), (4, .pointer (some ⟨b1, 0, none⟩)), (6, .int .i64 y4), (7, .int .i64 y5), (11, .bool (decide (y5 ≥ 0)))]) (by kernel_rfl) ?_
      refine WP.cond (b := decide (y5 ≥ 0)) (by kernel_rfl) (fun hc => ?_) (fun hc => ?_)
      · replace hc := of_decide_eq_true hc
        rw [if_pos hc] at h
        have hc9 := hc
        clear hc
        refine WP.skip ?_
        refine QP.next ?_
        refine WP.pick [0, 2, 4, 6, 7] ?_
        refine WP.seq ?_
        refine WP.block ?_
        rw [Option.bind_eq_some_iff] at h
        obtain ⟨os10, h, hk11⟩ := h
        refine WP.cut (fun L' G' Γ' => ∃ s10 : T97, s10 = os10 ∧ ∃ (As10_f0 : Option Addr), ∃ (cs10_f0 : Nat), ∃ (Cs10_f0 : Chunk), ∃ (As10_f1 : Option Addr), ∃ (cs10_f1 : Nat), ∃ (Cs10_f1 : Chunk), L' = [(0, .pointer (some ⟨b0, 0, none⟩)), (2, .int .i64 a2), (4, .pointer (some ⟨b1, 0, none⟩)), (6, .int .i64 y4), (7, .int .i64 y5)] ∧ G = G' ∧ [(b1, .cells #[.int .i64 a1.f0, .int .i64 a1.f1] 32 (0, 0))] :: [(b0, .cells #[mpv As10_f0, mpv As10_f1] 97 (0, 0))] :: Cs10_f0 :: Cs10_f1 :: Γ = Γ' ∧ MpO m94 G As10_f0 cs10_f0 s10.f0 Cs10_f0 ∧ MpO m95 G As10_f1 cs10_f1 s10.f1 Cs10_f1) ?_ ?_
        · clear hk11
          skip
          refine WP.any (N := 15) (S := [⟨some 14, [0], []⟩, ⟨some 15, [14], [0]⟩, ⟨some 16, [15], [1]⟩, ⟨some 17, [16], [2]⟩, ⟨some 18, [4], []⟩, ⟨some 19, [18], [4]⟩, ⟨some 20, [7], []⟩, ⟨some 21, [6], []⟩, ⟨some 22, [19, 20, 21], [5, 6, 7]⟩, ⟨some 23, [17, 22], [3, 8]⟩, ⟨some 24, [2], []⟩, ⟨some 25, [23, 24], [9, 10]⟩, ⟨some 26, [17, 22], [0, 1, 2, 3, 4, 5, 6, 7, 8, 10]⟩, ⟨some 27, [26], [12]⟩, ⟨none, [17, 25, 27], [0, 1, 2, 3, 4, 5, 6, 7, 8, 9, 10, 11, 12, 13]⟩]) (kw := 12) (G0 := G) (Γ0 := [(b1, .cells #[.int .i64 a1.f0, .int .i64 a1.f1] 32 (0, 0))] :: [(b0, .cells #[mpv Ay6_f0, mpv Ay6_f1] 97 (0, 0))] :: Cy6_f0 :: Cy6_f1 :: Γ) mo (by kernel_rfl) (fun hS => ?_)
          refine WA.pure [0, 1, 2, 4, 6, 7, 10] [0, 2, 4, 6, 7, 16, 18, 20, 21, 24] (m := 8) (b' := 1239) (L' := [(0, .pointer (some ⟨b0, 0, none⟩)), (2, .int .i64 a2), (4, .pointer (some ⟨b1, 0, none⟩)), (6, .int .i64 y4), (7, .int .i64 y5), (16, .pointer (some ⟨b0, 1, none⟩)), (18, .pointer (some ⟨b1, 0, none⟩)), (20, .int .i64 y5), (21, .int .i64 y4), (24, .int .i64 a2)]) (by kernel_rfl) (NoPanic.then (NoPanic.block (NoPanic.then (NoPanic.then (NoPanic.block (NoPanic.then (NoPanic.body))))))) Under.refl hS (by kernel_rfl) ?_
          refine WA.tellD [12] (i := 3) (m := 7) (b' := 1247) (by kernel_rfl) (NoPanic.then (NoPanic.block (NoPanic.then (NoPanic.then (NoPanic.block (NoPanic.then (NoPanic.body))))))) Under.refl hS (by kernel_rfl) (op := .load 95 (.tmp 16)) (ty := 95) (d := some 17) (g := none) (by kernel_rfl) (by kernel_rfl) (by kernel_rfl) (Tells.load_box (i := 1) (b := b0) (o := 1) (agg := false) (by rfl) ag95 (by kernel_rfl) (fun _ => rfl) (Nat.le_of_ble_eq_true rfl) (v := mpv Ay6_f1) (by kernel_rfl)) ?_
          refine WA.tellD [12] (i := 5) (m := 6) (b' := 1279) (by kernel_rfl) (NoPanic.then (NoPanic.block (NoPanic.then (NoPanic.then (NoPanic.block (NoPanic.then (NoPanic.body))))))) Under.refl hS (by kernel_rfl) (op := .load 3 (.tmp 18)) (ty := 3) (d := some 19) (g := none) (by kernel_rfl) (by kernel_rfl) (by kernel_rfl) (Tells.load_box (i := 0) (b := b1) (o := 0) (agg := false) (by rfl) ag3 (by kernel_rfl) (fun _ => rfl) (Nat.le_of_ble_eq_true rfl) (v := .int .i64 a1.f0) (by kernel_rfl)) ?_
          refine WA.pure [8] [0, 2, 4, 6, 7, 17, 22, 24] (m := 5) (b' := 1535) (L' := [(0, .pointer (some ⟨b0, 0, none⟩)), (2, .int .i64 a2), (4, .pointer (some ⟨b1, 0, none⟩)), (6, .int .i64 y4), (7, .int .i64 y5), (17, mpv Ay6_f1), (22, .agg #[.int .i64 a1.f0, .int .i64 y5, .int .i64 y4]), (24, .int .i64 a2)]) (by kernel_rfl) (NoPanic.then (NoPanic.block (NoPanic.then (NoPanic.then (NoPanic.block (NoPanic.then (NoPanic.body))))))) Under.refl hS (by kernel_rfl) ?_
          refine WA.two (i := 9) (j := 12) (m := 4) (by kernel_rfl) hS (by kernel_rfl) ?_ ?_
          · refine WO.op (b' := 2047) (by kernel_rfl) (op := .lookup 95 (.tmp 17) (.tmp 22) false) (ty := 3) (d := some 23) (g := none) (by kernel_rfl) (by kernel_rfl) (by kernel_rfl) ((Tells.lookup mt95 ko95 Hy6_f1 (i := 3) rfl (a := (⟨a1.f0, y5, y4⟩ : T130)) (z := 0) (by kernel_rfl) (by kernel_rfl) mz95)).does ?_
            rintro _ _ _ ⟨rfl, rfl, rfl⟩
            refine ⟨_, _, Under.refl, Under.refl, ?_⟩
            refine WA.pure [11] [0, 2, 4, 6, 7, 17, 22, 25] (m := 3) (b' := 4095) (L' := [(0, .pointer (some ⟨b0, 0, none⟩)), (2, .int .i64 a2), (4, .pointer (some ⟨b1, 0, none⟩)), (6, .int .i64 y4), (7, .int .i64 y5), (17, mpv Ay6_f1), (22, .agg #[.int .i64 a1.f0, .int .i64 y5, .int .i64 y4]), (25, .int .i64 (IntKind.i64.wrap (((mget y6.f1 (⟨a1.f0, y5, y4⟩ : T130)).getD 0) + a2)))]) (by kernel_rfl) (NoPanic.then (NoPanic.block (NoPanic.then (NoPanic.then (NoPanic.block (NoPanic.then (NoPanic.body))))))) Under.refl hS (by kernel_rfl) ?_
            refine WA.opK (i := 12) (kw' := 14) (m := 2) (b' := 8191) (by kernel_rfl) rfl hS (by kernel_rfl) (op := .mapEntry 95 (.tmp 17) (.tmp 22)) (ty := 0) (d := some 26) (g := none) (by kernel_rfl) (by kernel_rfl) (by kernel_rfl) (Does.mapEntry mt95 ko95 Hy6_f1 (i := 3) rfl (a := (⟨a1.f0, y5, y4⟩ : T130)) (z := 0) (by kernel_rfl) (by kernel_rfl) mz95) ?_
            rintro _ _ _ ⟨st13, CN12, rfl, HN12, rfl, rfl⟩
            refine ⟨_, _, Under.refl, ?_⟩
            refine WA.pure [13] [0, 2, 4, 6, 7, 17, 25, 27] (m := 1) (b' := 16383) (L' := [(0, .pointer (some ⟨b0, 0, none⟩)), (2, .int .i64 a2), (4, .pointer (some ⟨b1, 0, none⟩)), (6, .int .i64 y4), (7, .int .i64 y5), (17, mpv Ay6_f1), (25, .int .i64 (IntKind.i64.wrap (((mget y6.f1 (⟨a1.f0, y5, y4⟩ : T130)).getD 0) + a2))), (27, .int .i64 (st13 : Int))]) (by kernel_rfl) (NoPanic.then (NoPanic.block (NoPanic.then (NoPanic.then (NoPanic.block (NoPanic.then (NoPanic.body))))))) Under.refl hS (by kernel_rfl) ?_
            refine WA.opK (i := 14) (kw' := 15) (m := 0) (b' := 32767) (by kernel_rfl) rfl hS (by kernel_rfl) (op := .entryStore 95 (.tmp 17) (.tmp 27) (.tmp 25)) (ty := 0) (d := none) (g := none) (by kernel_rfl) (by kernel_rfl) (by kernel_rfl) (Does.entryStore HN12 (i := 3) rfl (v := (IntKind.i64.wrap (((mget y6.f1 (⟨a1.f0, y5, y4⟩ : T130)).getD 0) + a2))) (by kernel_rfl) (by kernel_rfl) (by kernel_rfl)) ?_
            rintro _ _ _ ⟨rfl, rfl, CN14, HN14, rfl⟩
            refine ⟨_, _, Under.refl, ?_⟩
            refine WA.done hS (by kernel_rfl) ?_
            refine QP.pick [0, 2, 4, 6, 7] ?_
            refine QP.pick [0, 2, 4, 6, 7] ?_
            exact QP.meet ⟨_, Option.some.inj h, Ay6_f0, cy6_f0, Cy6_f0, Ay6_f1, cy6_f1, CN14, rfl, rfl, rfl, Hy6_f0, HN14⟩
          · refine WO.opK (kw' := 14) rfl (b' := 5631) (by kernel_rfl) (op := .mapEntry 95 (.tmp 17) (.tmp 22)) (ty := 0) (d := some 26) (g := none) (by kernel_rfl) (by kernel_rfl) (by kernel_rfl) (Does.mapEntry mt95 ko95 Hy6_f1 (i := 3) rfl (a := (⟨a1.f0, y5, y4⟩ : T130)) (z := 0) (by kernel_rfl) (by kernel_rfl) mz95) ?_
            rintro _ _ _ ⟨st13, CN12, rfl, HN12, rfl, rfl⟩
            refine ⟨_, _, Under.refl, ?_⟩
            refine WA.pure [13] [0, 2, 4, 6, 7, 17, 22, 24, 27] (m := 3) (b' := 13823) (L' := [(0, .pointer (some ⟨b0, 0, none⟩)), (2, .int .i64 a2), (4, .pointer (some ⟨b1, 0, none⟩)), (6, .int .i64 y4), (7, .int .i64 y5), (17, mpv Ay6_f1), (22, .agg #[.int .i64 a1.f0, .int .i64 y5, .int .i64 y4]), (24, .int .i64 a2), (27, .int .i64 (st13 : Int))]) (by kernel_rfl) (NoPanic.then (NoPanic.block (NoPanic.then (NoPanic.then (NoPanic.block (NoPanic.then (NoPanic.body))))))) Under.refl hS (by kernel_rfl) ?_
            refine WA.tellD [14] (i := 9) (m := 2) (b' := 14335) (by kernel_rfl) (NoPanic.then (NoPanic.block (NoPanic.then (NoPanic.then (NoPanic.block (NoPanic.then (NoPanic.body))))))) Under.refl hS (by kernel_rfl) (op := .lookup 95 (.tmp 17) (.tmp 22) false) (ty := 3) (d := some 23) (g := none) (by kernel_rfl) (by kernel_rfl) (by kernel_rfl) (MpE.lookup mt95 ko95 HN12 (i := 3) rfl (a := (⟨a1.f0, y5, y4⟩ : T130)) (z := 0) (by kernel_rfl) (by kernel_rfl) mz95) ?_
            refine WA.pure [11] [0, 2, 4, 6, 7, 17, 25, 27] (m := 1) (b' := 16383) (L' := [(0, .pointer (some ⟨b0, 0, none⟩)), (2, .int .i64 a2), (4, .pointer (some ⟨b1, 0, none⟩)), (6, .int .i64 y4), (7, .int .i64 y5), (17, mpv Ay6_f1), (25, .int .i64 (IntKind.i64.wrap (((mget y6.f1 (⟨a1.f0, y5, y4⟩ : T130)).getD 0) + a2))), (27, .int .i64 (st13 : Int))]) (by kernel_rfl) (NoPanic.then (NoPanic.block (NoPanic.then (NoPanic.then (NoPanic.block (NoPanic.then (NoPanic.body))))))) Under.refl hS (by kernel_rfl) ?_
            refine WA.opK (i := 14) (kw' := 15) (m := 0) (b' := 32767) (by kernel_rfl) rfl hS (by kernel_rfl) (op := .entryStore 95 (.tmp 17) (.tmp 27) (.tmp 25)) (ty := 0) (d := none) (g := none) (by kernel_rfl) (by kernel_rfl) (by kernel_rfl) (Does.entryStore HN12 (i := 3) rfl (v := (IntKind.i64.wrap (((mget y6.f1 (⟨a1.f0, y5, y4⟩ : T130)).getD 0) + a2))) (by kernel_rfl) (by kernel_rfl) (by kernel_rfl)) ?_
            rintro _ _ _ ⟨rfl, rfl, CN14, HN14, rfl⟩
            refine ⟨_, _, Under.refl, ?_⟩
            refine WA.done hS (by kernel_rfl) ?_
            refine QP.pick [0, 2, 4, 6, 7] ?_
            refine QP.pick [0, 2, 4, 6, 7] ?_
            exact QP.meet ⟨_, Option.some.inj h, Ay6_f0, cy6_f0, Cy6_f0, Ay6_f1, cy6_f1, CN14, rfl, rfl, rfl, Hy6_f0, HN14⟩
        · rintro _ _ _ ⟨s10, rfl, As10_f0, cs10_f0, Cs10_f0, As10_f1, cs10_f1, Cs10_f1, rfl, rfl, rfl, Hs10_f0, Hs10_f1⟩
          clear h
          replace h := hk11
          refine WP.regionP [0, 2, 4, 6, 7] (L' := [(0, .pointer (some ⟨b0, 0, none⟩)), (2, .int .i64 a2), (4, .pointer (some ⟨b1, 0, none⟩)), (6, .int .i64 (IntKind.i64.wrap (Int.tdiv y4 4))), (7, .int .i64 y5)]) (by kernel_rfl) ?_
          refine QP.blockN ?_
          refine QP.next ?_
          refine WP.pick [0, 2, 4, 6, 7] ?_
          refine WP.regionP [0, 2, 4, 6, 7] (L' := [(0, .pointer (some ⟨b0, 0, none⟩)), (2, .int .i64 a2), (4, .pointer (some ⟨b1, 0, none⟩)), (6, .int .i64 (IntKind.i64.wrap (Int.tdiv y4 4))), (7, .int .i64 (IntKind.i64.wrap (y5 - 1)))]) (by kernel_rfl) ?_
          refine QP.front (i := 3) rfl ?_
          refine QP.front (i := 3) rfl ?_
          refine QP.front (i := 3) rfl ?_
          refine QP.front (i := 3) rfl ?_
          refine QP.pick [0, 2, 4, 6, 7] ?_
          exact QP.meet ⟨kn8, Nat.lt_succ_self _, (IntKind.i64.wrap (Int.tdiv y4 4)), (IntKind.i64.wrap (y5 - 1)), s10, h, As10_f0, cs10_f0, Cs10_f0, As10_f1, cs10_f1, Cs10_f1, rfl, rfl, rfl, Hs10_f0, Hs10_f1⟩
      · replace hc := of_decide_eq_false hc
        rw [if_neg hc] at h
        have hc9 := hc
        clear hc
        refine WP.exit ?_
        refine QP.thenE ?_
        refine QP.thenE ?_
        refine QP.blockE ?_
        refine QP.dropAt 0 ?_
        refine QP.pick [] ?_
        exact QP.meet ⟨_, Option.some.inj h, Ay6_f0, cy6_f0, Cy6_f0, Ay6_f1, cy6_f1, Cy6_f1, rfl, rfl, rfl, Hy6_f0, Hy6_f1⟩
  · rintro _ _ _ ⟨s2, rfl, As2_f0, cs2_f0, Cs2_f0, As2_f1, cs2_f1, Cs2_f1, rfl, rfl, rfl, Hs2_f0, Hs2_f1⟩
    clear h
    replace h := hk3
    obtain rfl := Option.some.inj h
    exact QP.returnedN [] [] _ (by kernel_rfl) (by kernel_rfl) (by kernel_rfl) (fun W hI => ⟨_, _, _, rfl, ⟨As2_f0, cs2_f0, Cs2_f0, As2_f1, cs2_f1, Cs2_f1, rfl, Hs2_f0, Hs2_f1, rfl, rfl⟩, hI⟩)

/-! ### (*grapevine/tree.Tree).Put: function 17 -/
def tree_Tree_Put_l0 (l1 : List T36) : Nat → Int → Int → T97 → Option (Int × T97)
  | 0, _, _, _ => none
  | k + 1, y3, y4, y5 => (if y4 < (l1.length : Int) then (if 0 ≤ y4 ∧ y4 < (l1.length : Int) then ((record_Lay k (⟨(l1.getD y4.toNat z36).f0, (l1.getD y4.toNat z36).f1, (l1.getD y4.toNat z36).f2, (l1.getD y4.toNat z36).f3, (l1.getD y4.toNat z36).f4⟩ : T36)).bind fun t11 => ((if ¬ t11.2 = 0 then some true else some ((mget y5.f0 (⟨(l1.getD y4.toNat z36).f0, (l1.getD y4.toNat z36).f1⟩ : T32)).isSome)).bind fun s16 => (if s16 = true then tree_Tree_Put_l0 l1 k y3 (IntKind.i64.wrap (y4 + 1)) y5 else ((digest_Of k ([t11.1] : List (List Int))).bind fun t23 => ((tree_Tree_count k (⟨(mput y5.f0 (⟨(l1.getD y4.toNat z36).f0, (l1.getD y4.toNat z36).f1⟩ : T32) (⟨(l1.getD y4.toNat z36).f0, (l1.getD y4.toNat z36).f1, (l1.getD y4.toNat z36).f2, (l1.getD y4.toNat z36).f3, (l1.getD y4.toNat z36).f4, t23⟩ : T103)), y5.f1⟩ : T97) (⟨(l1.getD y4.toNat z36).f0, (l1.getD y4.toNat z36).f1⟩ : T32) 1).bind fun t30 => tree_Tree_Put_l0 l1 k (IntKind.i64.wrap (y3 + 1)) (IntKind.i64.wrap (y4 + 1)) t30))))) else none) else some (y3, y5))
def tree_Tree_Put (k : Nat) (a0 : T97) (l1 : List T36) : Option (Int × T97) := ((tree_Tree_Put_l0 l1 k 0 0 a0).bind fun s1 => some (s1.1, s1.2))
set_option maxHeartbeats 4000000 in
theorem tree_Tree_Put_calls {B : World} {G : GMap} {Γ : List Chunk} {W : World} (HT : Tabs B G) (k : Nat) (a0 : T97) (l1 : List T36) (b0 : Nat) (Aa0_f0 : Option Addr) (ca0_f0 : Nat) (Ca0_f0 : Chunk) (Ha0_f0 : MpO m94 G Aa0_f0 ca0_f0 a0.f0 Ca0_f0) (Aa0_f1 : Option Addr) (ca0_f1 : Nat) (Ca0_f1 : Chunk) (Ha0_f1 : MpO m95 G Aa0_f1 ca0_f1 a0.f1 Ca0_f1) (Al1 : Option Addr) (cl1 : Nat) (Hl1 : Rd k36 G Al1 cl1 l1) (r : Int × T97) (h : tree_Tree_Put k a0 l1 = some r) (hI : Inv B G ([(b0, .cells #[mpv Aa0_f0, mpv Aa0_f1] 97 (0, 0))] :: Ca0_f0 :: Ca0_f1 :: Γ) W) :
    Calls Tryd.prog 17 [.pointer (some ⟨b0, 0, none⟩), .slice Al1 l1.length cl1].toArray W (Ret B (fun v G' Γ' => ∃ (ARp0_0 : Option Addr), ∃ (cRp0_0 : Nat), ∃ (CRp0_0 : Chunk), ∃ (ARp0_1 : Option Addr), ∃ (cRp0_1 : Nat), ∃ (CRp0_1 : Chunk), v = .int .i64 r.1 ∧ MpO m94 G' ARp0_0 cRp0_0 r.2.f0 CRp0_0 ∧ MpO m95 G' ARp0_1 cRp0_1 r.2.f1 CRp0_1 ∧ G = G' ∧ [(b0, .cells #[mpv ARp0_0, mpv ARp0_1] 97 (0, 0))] :: CRp0_0 :: CRp0_1 :: Γ = Γ')) := by
  refine calls_WP (Γ := [(b0, .cells #[mpv Aa0_f0, mpv Aa0_f1] 97 (0, 0))] :: Ca0_f0 :: Ca0_f1 :: Γ) (G := G) (B := B) Tryd.func17 rfl (by kernel_rfl) ?_ hI
  clear hI
  unfold tree_Tree_Put at h
  refine WP.seqP [0, 1] (L' := [(0, .pointer (some ⟨b0, 0, none⟩)), (1, .slice Al1 l1.length cl1)]) (by kernel_rfl) ?_
  refine WP.seq ?_
  refine WP.seqP [0, 1, 13] (L' := [(0, .pointer (some ⟨b0, 0, none⟩)), (1, .slice Al1 l1.length cl1), (13, .bool false)]) (by kernel_rfl) ?_
  refine WP.no (by kernel_rfl) ?_
  refine WP.skip ?_
  refine QP.next ?_
  refine WP.pick [0, 1] ?_
  refine WP.seqP [0, 1, 5] (L' := [(0, .pointer (some ⟨b0, 0, none⟩)), (1, .slice Al1 l1.length cl1), (5, .int .i64 0)]) (by kernel_rfl) ?_
  refine WP.seq ?_
  refine WP.seqP [0, 5, 14, 15, 16] (L' := [(0, .pointer (some ⟨b0, 0, none⟩)), (5, .int .i64 0), (14, .slice Al1 l1.length cl1), (15, .int .i64 (l1.length : Int)), (16, .int .i64 0)]) (by kernel_rfl) ?_
  rw [Option.bind_eq_some_iff] at h
  obtain ⟨os1, h, hk2⟩ := h
  refine WP.cutQ (fun L' G' Γ' => ∃ s1 : Int × T97, s1 = os1 ∧ ∃ (As1_2_f0 : Option Addr), ∃ (cs1_2_f0 : Nat), ∃ (Cs1_2_f0 : Chunk), ∃ (As1_2_f1 : Option Addr), ∃ (cs1_2_f1 : Nat), ∃ (Cs1_2_f1 : Chunk), L' = [(5, .int .i64 s1.1)] ∧ G = G' ∧ [(b0, .cells #[mpv As1_2_f0, mpv As1_2_f1] 97 (0, 0))] :: Cs1_2_f0 :: Cs1_2_f1 :: Γ = Γ' ∧ MpO m94 G As1_2_f0 cs1_2_f0 s1.2.f0 Cs1_2_f0 ∧ MpO m95 G As1_2_f1 cs1_2_f1 s1.2.f1 Cs1_2_f1) ?_ ?_
  · clear hk2
    refine WP.block ?_
    refine WP.pick [0, 5, 14, 15, 16] ?_
    refine WP.loopF (fun kn6 L' G' Γ' => ∃ (y3 : Int), ∃ (y4 : Int), ∃ (y5 : T97), tree_Tree_Put_l0 l1 kn6 y3 y4 y5 = some os1 ∧ ∃ (Ay5_f0 : Option Addr), ∃ (cy5_f0 : Nat), ∃ (Cy5_f0 : Chunk), ∃ (Ay5_f1 : Option Addr), ∃ (cy5_f1 : Nat), ∃ (Cy5_f1 : Chunk), L' = [(0, .pointer (some ⟨b0, 0, none⟩)), (5, .int .i64 y3), (14, .slice Al1 l1.length cl1), (15, .int .i64 (l1.length : Int)), (16, .int .i64 y4)] ∧ G = G' ∧ [(b0, .cells #[mpv Ay5_f0, mpv Ay5_f1] 97 (0, 0))] :: Cy5_f0 :: Cy5_f1 :: Γ = Γ' ∧ MpO m94 G Ay5_f0 cy5_f0 y5.f0 Cy5_f0 ∧ MpO m95 G Ay5_f1 cy5_f1 y5.f1 Cy5_f1) ?_ k ⟨0, 0, a0, h, Aa0_f0, ca0_f0, Ca0_f0, Aa0_f1, ca0_f1, Ca0_f1, rfl, rfl, rfl, Ha0_f0, Ha0_f1⟩
    clear h
    rintro kn7 _ _ _ ⟨y3, y4, y5, h, Ay5_f0, cy5_f0, Cy5_f0, Ay5_f1, cy5_f1, Cy5_f1, rfl, rfl, rfl, Hy5_f0, Hy5_f1⟩
    cases kn7 with
    | zero => exact absurd h (by simp [tree_Tree_Put_l0])
    | succ kn7 =>
      simp only [tree_Tree_Put_l0] at h
      refine WP.seqP [0, 5, 14, 15, 16, 17] (L' := [(0, .pointer (some ⟨b0, 0, none⟩)), (5, .int .i64 y3), (14, .slice Al1 l1.length cl1), (15, .int .i64 (l1.length : Int)), (16, .int .i64 y4), (17, .bool (decide (y4 < (l1.length : Int))))]) (by kernel_rfl) ?_
      refine WP.seq ?_
      refine WP.cond (b := decide (y4 < (l1.length : Int))) (by kernel_rfl) (fun hc => ?_) (fun hc => ?_)
      · replace hc := of_decide_eq_true hc
        rw [if_pos hc] at h
        have hc8 := hc
        clear hc
        refine WP.skip ?_
        refine QP.next ?_
        refine WP.pick [0, 5, 14, 15, 16] ?_
        refine WP.seq ?_
        refine WP.block ?_
        refine WP.seqR ?_
        by_cases hb9 : 0 ≤ y4 ∧ y4 < (l1.length : Int)
        case neg => rw [if_neg hb9] at h; cases h
        rw [if_pos hb9] at h
        refine WL.tell (op := .indexAddr 28 (.tmp 14) (.tmp 16)) (ty := 0) (d := some 18) (g := none) (by kernel_rfl) (by kernel_rfl) (by kernel_rfl) (Tells.indexAddr (A := Al1) (n := l1.length) (c := cl1) (k := .i64) (j := y4) (by kernel_rfl) (by kernel_rfl) (Hl1.isSome hb9.1 hb9.2) hb9.1 hb9.2 sl28) ?_
        refine WL.tellE (op := .load 36 (.tmp 18)) (ty := 36) (d := some 19) (g := none) (by kernel_rfl) (by kernel_rfl) (by kernel_rfl) (Hl1.load (agg := true) hb9.1 hb9.2 z36 ag36 (fun h => by cases h) (by kernel_rfl)) ?_
        rintro _ rfl
        refine WL.op (op := .alloc 36) (ty := 0) (d := some 7) (g := none) (by kernel_rfl) (by kernel_rfl) (by kernel_rfl) (Does.new (o := .cells #[.int .i64 0, .int .i64 0, .int .i64 0, .int .i64 0, .string (⟨#[]⟩ : ByteArray)] 36 (0, 0)) (v := fun r => .pointer (some ⟨r, 0, none⟩)) (fun r => by kernel_rfl)) ?_
        rintro _ _ _ ⟨b10, rfl, rfl, rfl⟩
        refine WL.op (op := .store 36 (.tmp 7) (.tmp 19)) (ty := 0) (d := none) (g := none) (by kernel_rfl) (by kernel_rfl) (by kernel_rfl) (Does.store_box (i := 0) (b := b10) (o := 0) (v := .agg #[.int .i64 ((l1.getD y4.toNat z36).f0), .int .i64 ((l1.getD y4.toNat z36).f1), .int .i64 ((l1.getD y4.toNat z36).f2), .int .i64 ((l1.getD y4.toNat z36).f3), .string ((l1.getD y4.toNat z36).f4)]) (by rfl) sz36 (by kernel_rfl) (by kernel_rfl) (by kernel_rfl) (Free.zero _) (Nat.le_of_ble_eq_true rfl) (cells' := #[.int .i64 ((l1.getD y4.toNat z36).f0), .int .i64 ((l1.getD y4.toNat z36).f1), .int .i64 ((l1.getD y4.toNat z36).f2), .int .i64 ((l1.getD y4.toNat z36).f3), .string ((l1.getD y4.toNat z36).f4)]) (by kernel_rfl)) ?_
        rintro _ _ _ ⟨rfl, rfl, rfl⟩
        refine WL.restQ 4 [0, 5, 7, 14, 15, 16] (L' := [(0, .pointer (some ⟨b0, 0, none⟩)), (5, .int .i64 y3), (7, .pointer (some ⟨b10, 0, none⟩)), (14, .slice Al1 l1.length cl1), (15, .int .i64 (l1.length : Int)), (16, .int .i64 y4)]) (by kernel_rfl) ?_
        refine WP.seqR ?_
        refine WL.tell (op := .load 36 (.tmp 7)) (ty := 36) (d := some 21) (g := none) (by kernel_rfl) (by kernel_rfl) (by kernel_rfl) (Tells.load_box (i := 0) (b := b10) (o := 0) (agg := true) (by rfl) ag36 (by kernel_rfl) (fun h => by cases h) (Nat.le_of_ble_eq_true rfl) (v := .agg #[.int .i64 ((l1.getD y4.toNat z36).f0), .int .i64 ((l1.getD y4.toNat z36).f1), .int .i64 ((l1.getD y4.toNat z36).f2), .int .i64 ((l1.getD y4.toNat z36).f3), .string ((l1.getD y4.toNat z36).f4)]) (by kernel_rfl)) ?_
        rw [Option.bind_eq_some_iff] at h
        obtain ⟨t11, ht12, h⟩ := h
        refine WL.op (op := .call { callee := (.value (.func 56)), args := #[(.tmp 21)], argTypes := #[36] }) (ty := 100) (d := some 22) (g := none) (by kernel_rfl) (by kernel_rfl) (by kernel_rfl) (Does.call (f := 56) (args := [.agg #[.int .i64 ((l1.getD y4.toNat z36).f0), .int .i64 ((l1.getD y4.toNat z36).f1), .int .i64 ((l1.getD y4.toNat z36).f2), .int .i64 ((l1.getD y4.toNat z36).f3), .string ((l1.getD y4.toNat z36).f4)]]) (by kernel_rfl) (fun W hI => (record_Lay_calls HT kn7 (⟨(l1.getD y4.toNat z36).f0, (l1.getD y4.toNat z36).f1, (l1.getD y4.toNat z36).f2, (l1.getD y4.toNat z36).f3, (l1.getD y4.toNat z36).f4⟩ : T36)  t11 ht12 hI))) ?_
        rintro _ _ _ ⟨AR130, cR130, CR130, rfl, HR130, rfl, rfl⟩
        refine WL.restQ 2 [0, 5, 7, 8, 9, 14, 15, 16] (L' := [(0, .pointer (some ⟨b0, 0, none⟩)), (5, .int .i64 y3), (7, .pointer (some ⟨b10, 0, none⟩)), (8, .slice AR130 t11.1.length cR130), (9, .int .i64 t11.2), (14, .slice Al1 l1.length cl1), (15, .int .i64 (l1.length : Int)), (16, .int .i64 y4)]) (by kernel_rfl) ?_
        refine WP.seq ?_
        refine WP.seq ?_
        refine WP.any (N := 13) (S := [⟨some 26, [0], []⟩, ⟨some 27, [26], [0]⟩, ⟨some 28, [27], [1]⟩, ⟨some 29, [28], [2]⟩, ⟨some 30, [7], []⟩, ⟨some 31, [30], [4]⟩, ⟨some 32, [29, 31], [3, 5]⟩, ⟨some 25, [32], [6]⟩, ⟨some 33, [25], [7]⟩, ⟨some 34, [25], [7]⟩, ⟨some 10, [], []⟩, ⟨none, [10, 33], [0, 1, 2, 3, 4, 5, 6, 7, 8, 10]⟩, ⟨some 11, [34], [0, 1, 2, 3, 4, 5, 6, 7, 8, 9, 10, 11]⟩]) (kw := 11) (G0 := G) (Γ0 := CR130 :: [(b10, .cells #[.int .i64 ((l1.getD y4.toNat z36).f0), .int .i64 ((l1.getD y4.toNat z36).f1), .int .i64 ((l1.getD y4.toNat z36).f2), .int .i64 ((l1.getD y4.toNat z36).f3), .string ((l1.getD y4.toNat z36).f4)] 36 (0, 0))] :: [(b0, .cells #[mpv Ay5_f0, mpv Ay5_f1] 97 (0, 0))] :: Cy5_f0 :: Cy5_f1 :: Γ) mo (by kernel_rfl) (fun hS => ?_)
        refine WA.pure [0, 1, 2, 4] [0, 5, 7, 8, 9, 14, 15, 16, 28, 30] (m := 9) (b' := 23) (L' := [(0, .pointer (some ⟨b0, 0, none⟩)), (5, .int .i64 y3), (7, .pointer (some ⟨b10, 0, none⟩)), (8, .slice AR130 t11.1.length cR130), (9, .int .i64 t11.2), (14, .slice Al1 l1.length cl1), (15, .int .i64 (l1.length : Int)), (16, .int .i64 y4), (28, .pointer (some ⟨b0, 0, none⟩)), (30, .pointer (some ⟨b10, 0, none⟩))]) (by kernel_rfl) (NoPanic.then (NoPanic.then (NoPanic.block (NoPanic.then (NoPanic.then (NoPanic.block (NoPanic.then (NoPanic.then (NoPanic.body))))))))) Under.refl hS (by kernel_rfl) ?_
        refine WA.tellD [11] (i := 3) (m := 8) (b' := 31) (by kernel_rfl) (NoPanic.then (NoPanic.then (NoPanic.block (NoPanic.then (NoPanic.then (NoPanic.block (NoPanic.then (NoPanic.then (NoPanic.body))))))))) Under.refl hS (by kernel_rfl) (op := .load 94 (.tmp 28)) (ty := 94) (d := some 29) (g := none) (by kernel_rfl) (by kernel_rfl) (by kernel_rfl) (Tells.load_box (i := 2) (b := b0) (o := 0) (agg := false) (by rfl) ag94 (by kernel_rfl) (fun _ => rfl) (Nat.le_of_ble_eq_true rfl) (v := mpv Ay5_f0) (by kernel_rfl)) ?_
        refine WA.tellD [11] (i := 5) (m := 7) (b' := 63) (by kernel_rfl) (NoPanic.then (NoPanic.then (NoPanic.block (NoPanic.then (NoPanic.then (NoPanic.block (NoPanic.then (NoPanic.then (NoPanic.body))))))))) Under.refl hS (by kernel_rfl) (op := .load 32 (.tmp 30)) (ty := 32) (d := some 31) (g := none) (by kernel_rfl) (by kernel_rfl) (by kernel_rfl) (Tells.load_box (i := 1) (b := b10) (o := 0) (agg := true) (by rfl) ag32 (by kernel_rfl) (fun h => by cases h) (Nat.le_of_ble_eq_true rfl) (v := .agg #[.int .i64 ((l1.getD y4.toNat z36).f0), .int .i64 ((l1.getD y4.toNat z36).f1)]) (by kernel_rfl)) ?_
        refine WA.tellD [11] (i := 6) (m := 6) (b' := 127) (by kernel_rfl) (NoPanic.then (NoPanic.then (NoPanic.block (NoPanic.then (NoPanic.then (NoPanic.block (NoPanic.then (NoPanic.then (NoPanic.body))))))))) Under.refl hS (by kernel_rfl) (op := .lookup 94 (.tmp 29) (.tmp 31) true) (ty := 104) (d := some 32) (g := none) (by kernel_rfl) (by kernel_rfl) (by kernel_rfl) (Tells.lookupOk mt94 ko94 Hy5_f0 (i := 3) rfl (a := (⟨(l1.getD y4.toNat z36).f0, (l1.getD y4.toNat z36).f1⟩ : T32)) (z := z103) (by kernel_rfl) (by kernel_rfl) mz94) ?_
        refine WA.pure [7, 8, 9] [0, 5, 7, 8, 9, 14, 15, 16, 33, 34] (m := 3) (b' := 1023) (L' := [(0, .pointer (some ⟨b0, 0, none⟩)), (5, .int .i64 y3), (7, .pointer (some ⟨b10, 0, none⟩)), (8, .slice AR130 t11.1.length cR130), (9, .int .i64 t11.2), (14, .slice Al1 l1.length cl1), (15, .int .i64 (l1.length : Int)), (16, .int .i64 y4), (33, .agg #[.int .i64 (((mget y5.f0 (⟨(l1.getD y4.toNat z36).f0, (l1.getD y4.toNat z36).f1⟩ : T32)).getD z103).f0), .int .i64 (((mget y5.f0 (⟨(l1.getD y4.toNat z36).f0, (l1.getD y4.toNat z36).f1⟩ : T32)).getD z103).f1), .int .i64 (((mget y5.f0 (⟨(l1.getD y4.toNat z36).f0, (l1.getD y4.toNat z36).f1⟩ : T32)).getD z103).f2), .int .i64 (((mget y5.f0 (⟨(l1.getD y4.toNat z36).f0, (l1.getD y4.toNat z36).f1⟩ : T32)).getD z103).f3), .string (((mget y5.f0 (⟨(l1.getD y4.toNat z36).f0, (l1.getD y4.toNat z36).f1⟩ : T32)).getD z103).f4), .int .u64 (((mget y5.f0 (⟨(l1.getD y4.toNat z36).f0, (l1.getD y4.toNat z36).f1⟩ : T32)).getD z103).f5)]), (34, .bool ((mget y5.f0 (⟨(l1.getD y4.toNat z36).f0, (l1.getD y4.toNat z36).f1⟩ : T32)).isSome))]) (by kernel_rfl) (NoPanic.then (NoPanic.then (NoPanic.block (NoPanic.then (NoPanic.then (NoPanic.block (NoPanic.then (NoPanic.then (NoPanic.body))))))))) Under.refl hS (by kernel_rfl) ?_
        refine WA.op (i := 10) (m := 2) (b' := 2047) (by kernel_rfl) hS (by kernel_rfl) (op := .alloc 103) (ty := 0) (d := some 10) (g := none) (by kernel_rfl) (by kernel_rfl) (by kernel_rfl) (Does.new (o := .cells #[.int .i64 0, .int .i64 0, .int .i64 0, .int .i64 0, .string (⟨#[]⟩ : ByteArray), .int .u64 0] 103 (0, 0)) (v := fun r => .pointer (some ⟨r, 0, none⟩)) (fun r => by kernel_rfl)) ?_
        rintro _ _ _ ⟨b15, rfl, rfl, rfl⟩
        refine ⟨_, _, Under.cons Under.refl, Under.refl, ?_⟩
        refine WA.opK (i := 11) (kw' := 13) (m := 1) (b' := 4095) (by kernel_rfl) rfl hS (by kernel_rfl) (op := .store 103 (.tmp 10) (.tmp 33)) (ty := 0) (d := none) (g := none) (by kernel_rfl) (by kernel_rfl) (by kernel_rfl) (Does.store_box (i := 0) (b := b15) (o := 0) (v := .agg #[.int .i64 (((mget y5.f0 (⟨(l1.getD y4.toNat z36).f0, (l1.getD y4.toNat z36).f1⟩ : T32)).getD z103).f0), .int .i64 (((mget y5.f0 (⟨(l1.getD y4.toNat z36).f0, (l1.getD y4.toNat z36).f1⟩ : T32)).getD z103).f1), .int .i64 (((mget y5.f0 (⟨(l1.getD y4.toNat z36).f0, (l1.getD y4.toNat z36).f1⟩ : T32)).getD z103).f2), .int .i64 (((mget y5.f0 (⟨(l1.getD y4.toNat z36).f0, (l1.getD y4.toNat z36).f1⟩ : T32)).getD z103).f3), .string (((mget y5.f0 (⟨(l1.getD y4.toNat z36).f0, (l1.getD y4.toNat z36).f1⟩ : T32)).getD z103).f4), .int .u64 (((mget y5.f0 (⟨(l1.getD y4.toNat z36).f0, (l1.getD y4.toNat z36).f1⟩ : T32)).getD z103).f5)]) (by rfl) sz103 (by kernel_rfl) (by kernel_rfl) (by kernel_rfl) (Free.zero _) (Nat.le_of_ble_eq_true rfl) (cells' := #[.int .i64 (((mget y5.f0 (⟨(l1.getD y4.toNat z36).f0, (l1.getD y4.toNat z36).f1⟩ : T32)).getD z103).f0), .int .i64 (((mget y5.f0 (⟨(l1.getD y4.toNat z36).f0, (l1.getD y4.toNat z36).f1⟩ : T32)).getD z103).f1), .int .i64 (((mget y5.f0 (⟨(l1.getD y4.toNat z36).f0, (l1.getD y4.toNat z36).f1⟩ : T32)).getD z103).f2), .int .i64 (((mget y5.f0 (⟨(l1.getD y4.toNat z36).f0, (l1.getD y4.toNat z36).f1⟩ : T32)).getD z103).f3), .string (((mget y5.f0 (⟨(l1.getD y4.toNat z36).f0, (l1.getD y4.toNat z36).f1⟩ : T32)).getD z103).f4), .int .u64 (((mget y5.f0 (⟨(l1.getD y4.toNat z36).f0, (l1.getD y4.toNat z36).f1⟩ : T32)).getD z103).f5)]) (by kernel_rfl)) ?_
        rintro _ _ _ ⟨rfl, rfl, rfl⟩
        refine ⟨_, _, Under.refl, ?_⟩
        refine WA.pure [12] [0, 5, 7, 8, 9, 11, 14, 15, 16] (m := 0) (b' := 8191) (L' := [(0, .pointer (some ⟨b0, 0, none⟩)), (5, .int .i64 y3), (7, .pointer (some ⟨b10, 0, none⟩)), (8, .slice AR130 t11.1.length cR130), (9, .int .i64 t11.2), (11, .bool ((mget y5.f0 (⟨(l1.getD y4.toNat z36).f0, (l1.getD y4.toNat z36).f1⟩ : T32)).isSome)), (14, .slice Al1 l1.length cl1), (15, .int .i64 (l1.length : Int)), (16, .int .i64 y4)]) (by kernel_rfl) (NoPanic.then (NoPanic.then (NoPanic.block (NoPanic.then (NoPanic.then (NoPanic.block (NoPanic.then (NoPanic.then (NoPanic.body))))))))) Under.refl hS (by kernel_rfl) ?_
        refine WA.done hS (by kernel_rfl) ?_
        refine QP.pick [0, 5, 7, 8, 9, 11, 14, 15, 16] ?_
        refine QP.next ?_
        refine WP.dropAt 0 ?_
        rw [Option.bind_eq_some_iff] at h
        obtain ⟨os16, h, hk17⟩ := h
        refine WP.cut (fun L' G' Γ' => ∃ s16 : Bool, s16 = os16 ∧ L' = [(0, .pointer (some ⟨b0, 0, none⟩)), (5, .int .i64 y3), (7, .pointer (some ⟨b10, 0, none⟩)), (8, .slice AR130 t11.1.length cR130), (14, .slice Al1 l1.length cl1), (15, .int .i64 (l1.length : Int)), (16, .int .i64 y4), (39, .bool s16)] ∧ G = G' ∧ CR130 :: [(b10, .cells #[.int .i64 ((l1.getD y4.toNat z36).f0), .int .i64 ((l1.getD y4.toNat z36).f1), .int .i64 ((l1.getD y4.toNat z36).f2), .int .i64 ((l1.getD y4.toNat z36).f3), .string ((l1.getD y4.toNat z36).f4)] 36 (0, 0))] :: [(b0, .cells #[mpv Ay5_f0, mpv Ay5_f1] 97 (0, 0))] :: Cy5_f0 :: Cy5_f1 :: Γ = Γ') ?_ ?_
        · clear hk17
          refine WP.region ?_
          refine WL.pure 0 3 [0, 5, 7, 8, 11, 14, 15, 16, 37] (L' := [(0, .pointer (some ⟨b0, 0, none⟩)), (5, .int .i64 y3), (7, .pointer (some ⟨b10, 0, none⟩)), (8, .slice AR130 t11.1.length cR130), (11, .bool ((mget y5.f0 (⟨(l1.getD y4.toNat z36).f0, (l1.getD y4.toNat z36).f1⟩ : T32)).isSome)), (14, .slice Al1 l1.length cl1), (15, .int .i64 (l1.length : Int)), (16, .int .i64 y4), (37, .bool (t11.2 != 0))]) (by kernel_rfl) (by decide) ?_
          refine WL.split 37 (b := (t11.2 != 0)) (by kernel_rfl) (fun hc => ?_) (fun hc => ?_)
          · replace hc := (bne_iff_ne.1 hc)
            rw [if_pos hc] at h
            have hc18 := hc
            clear hc
            refine WL.rest 3 [0, 5, 7, 8, 14, 15, 16, 39] (L' := [(0, .pointer (some ⟨b0, 0, none⟩)), (5, .int .i64 y3), (7, .pointer (some ⟨b10, 0, none⟩)), (8, .slice AR130 t11.1.length cR130), (14, .slice Al1 l1.length cl1), (15, .int .i64 (l1.length : Int)), (16, .int .i64 y4), (39, .bool true)]) (by kernel_rfl) ?_
            refine QP.pick [0, 5, 7, 8, 14, 15, 16, 39] ?_
            exact QP.meet ⟨_, Option.some.inj h, rfl, rfl, rfl⟩
          · replace hc := (not_not_intro (bne_eq_false_iff_eq.1 hc))
            rw [if_neg hc] at h
            have hc18 := hc
            clear hc
            refine WL.rest 3 [0, 5, 7, 8, 14, 15, 16, 39] (L' := [(0, .pointer (some ⟨b0, 0, none⟩)), (5, .int .i64 y3), (7, .pointer (some ⟨b10, 0, none⟩)), (8, .slice AR130 t11.1.length cR130), (14, .slice Al1 l1.length cl1), (15, .int .i64 (l1.length : Int)), (16, .int .i64 y4), (39, .bool ((mget y5.f0 (⟨(l1.getD y4.toNat z36).f0, (l1.getD y4.toNat z36).f1⟩ : T32)).isSome))]) (by kernel_rfl) ?_
            refine QP.pick [0, 5, 7, 8, 14, 15, 16, 39] ?_
            exact QP.meet ⟨_, Option.some.inj h, rfl, rfl, rfl⟩
        · rintro _ _ _ ⟨s16, rfl, rfl, rfl, rfl⟩
          clear h
          replace h := hk17
          refine WP.cond (b := s16) (by kernel_rfl) (fun hc => ?_) (fun hc => ?_)
          · replace hc := hc
            rw [if_pos hc] at h
            have hc19 := hc
            clear hc
            refine WP.exit ?_
            refine QP.thenE ?_
            refine QP.blockE ?_
            refine QP.next ?_
            refine WP.pick [0, 5, 14, 15, 16] ?_
            refine WP.regionP [0, 5, 14, 15, 16] (L' := [(0, .pointer (some ⟨b0, 0, none⟩)), (5, .int .i64 y3), (14, .slice Al1 l1.length cl1), (15, .int .i64 (l1.length : Int)), (16, .int .i64 (IntKind.i64.wrap (y4 + 1)))]) (by kernel_rfl) ?_
            refine QP.dropAt 1 ?_
            refine QP.dropAt 0 ?_
            refine QP.front (i := 2) rfl ?_
            refine QP.front (i := 2) rfl ?_
            refine QP.front (i := 2) rfl ?_
            refine QP.pick [0, 5, 14, 15, 16] ?_
            exact QP.meet ⟨kn7, Nat.lt_succ_self _, y3, (IntKind.i64.wrap (y4 + 1)), y5, h, Ay5_f0, cy5_f0, Cy5_f0, Ay5_f1, cy5_f1, Cy5_f1, rfl, rfl, rfl, Hy5_f0, Hy5_f1⟩
          · replace hc := (Bool.eq_false_iff.1 hc)
            rw [if_neg hc] at h
            have hc19 := hc
            clear hc
            refine WP.skip ?_
            refine QP.next ?_
            refine WP.pick [0, 5, 7, 8, 14, 15, 16] ?_
            refine WP.seq ?_
            refine WP.any (N := 12) (S := [⟨some 40, [0], []⟩, ⟨some 41, [40], [0]⟩, ⟨some 42, [41], [1]⟩, ⟨some 43, [42], [2]⟩, ⟨some 44, [7], []⟩, ⟨some 45, [44], [4]⟩, ⟨some 46, [7], []⟩, ⟨some 47, [8], []⟩, ⟨some 48, [47], [7]⟩, ⟨some 49, [48], [8]⟩, ⟨some 50, [46, 49], [6, 9]⟩, ⟨none, [43, 45, 50], [0, 1, 2, 3, 4, 5, 6, 7, 8, 9, 10]⟩]) (kw := 11) (G0 := G) (Γ0 := CR130 :: [(b10, .cells #[.int .i64 ((l1.getD y4.toNat z36).f0), .int .i64 ((l1.getD y4.toNat z36).f1), .int .i64 ((l1.getD y4.toNat z36).f2), .int .i64 ((l1.getD y4.toNat z36).f3), .string ((l1.getD y4.toNat z36).f4)] 36 (0, 0))] :: [(b0, .cells #[mpv Ay5_f0, mpv Ay5_f1] 97 (0, 0))] :: Cy5_f0 :: Cy5_f1 :: Γ) mo (by kernel_rfl) (fun hS => ?_)
            refine WA.pure [0, 1, 2, 4, 7] [0, 5, 7, 14, 15, 16, 42, 44, 47] (m := 7) (b' := 151) (L' := [(0, .pointer (some ⟨b0, 0, none⟩)), (5, .int .i64 y3), (7, .pointer (some ⟨b10, 0, none⟩)), (14, .slice Al1 l1.length cl1), (15, .int .i64 (l1.length : Int)), (16, .int .i64 y4), (42, .pointer (some ⟨b0, 0, none⟩)), (44, .pointer (some ⟨b10, 0, none⟩)), (47, .slice AR130 t11.1.length cR130)]) (by kernel_rfl) (NoPanic.then (NoPanic.block (NoPanic.then (NoPanic.then (NoPanic.block (NoPanic.then (NoPanic.then (NoPanic.body)))))))) Under.refl hS (by kernel_rfl) ?_
            refine WA.tellD [11] (i := 3) (m := 6) (b' := 159) (by kernel_rfl) (NoPanic.then (NoPanic.block (NoPanic.then (NoPanic.then (NoPanic.block (NoPanic.then (NoPanic.then (NoPanic.body)))))))) Under.refl hS (by kernel_rfl) (op := .load 94 (.tmp 42)) (ty := 94) (d := some 43) (g := none) (by kernel_rfl) (by kernel_rfl) (by kernel_rfl) (Tells.load_box (i := 2) (b := b0) (o := 0) (agg := false) (by rfl) ag94 (by kernel_rfl) (fun _ => rfl) (Nat.le_of_ble_eq_true rfl) (v := mpv Ay5_f0) (by kernel_rfl)) ?_
            refine WA.tellD [11] (i := 5) (m := 5) (b' := 191) (by kernel_rfl) (NoPanic.then (NoPanic.block (NoPanic.then (NoPanic.then (NoPanic.block (NoPanic.then (NoPanic.then (NoPanic.body)))))))) Under.refl hS (by kernel_rfl) (op := .load 32 (.tmp 44)) (ty := 32) (d := some 45) (g := none) (by kernel_rfl) (by kernel_rfl) (by kernel_rfl) (Tells.load_box (i := 1) (b := b10) (o := 0) (agg := true) (by rfl) ag32 (by kernel_rfl) (fun h => by cases h) (Nat.le_of_ble_eq_true rfl) (v := .agg #[.int .i64 ((l1.getD y4.toNat z36).f0), .int .i64 ((l1.getD y4.toNat z36).f1)]) (by kernel_rfl)) ?_
            refine WA.tellD [11] (i := 6) (m := 4) (b' := 255) (by kernel_rfl) (NoPanic.then (NoPanic.block (NoPanic.then (NoPanic.then (NoPanic.block (NoPanic.then (NoPanic.then (NoPanic.body)))))))) Under.refl hS (by kernel_rfl) (op := .load 36 (.tmp 7)) (ty := 36) (d := some 46) (g := none) (by kernel_rfl) (by kernel_rfl) (by kernel_rfl) (Tells.load_box (i := 1) (b := b10) (o := 0) (agg := true) (by rfl) ag36 (by kernel_rfl) (fun h => by cases h) (Nat.le_of_ble_eq_true rfl) (v := .agg #[.int .i64 ((l1.getD y4.toNat z36).f0), .int .i64 ((l1.getD y4.toNat z36).f1), .int .i64 ((l1.getD y4.toNat z36).f2), .int .i64 ((l1.getD y4.toNat z36).f3), .string ((l1.getD y4.toNat z36).f4)]) (by kernel_rfl)) ?_
            refine WA.op (i := 8) (m := 3) (b' := 511) (by kernel_rfl) hS (by kernel_rfl) (op := .buildSlice 114 1 #[(0, (.tmp 47))]) (ty := 114) (d := some 48) (g := none) (by kernel_rfl) (by kernel_rfl) (by kernel_rfl) (Does.new (o := .cells #[.slice AR130 t11.1.length cR130] 55 (0, 0)) (v := fun r => .slice (some ⟨r, 0, none⟩) 1 1) (fun r => by kernel_rfl)) ?_
            rintro _ _ _ ⟨b20, rfl, rfl, rfl⟩
            refine ⟨_, _, Under.cons Under.refl, Under.refl, ?_⟩
            rw [Option.bind_eq_some_iff] at h
            obtain ⟨t23, ht24, h⟩ := h
            refine WA.op (i := 9) (m := 2) (b' := 1023) (by kernel_rfl) hS (by kernel_rfl) (op := .call { callee := (.value (.func 57)), args := #[(.tmp 48)], argTypes := #[114] }) (ty := 44) (d := some 49) (g := none) (by kernel_rfl) (by kernel_rfl) (by kernel_rfl) (Does.call (Φ := fun v' G' Γ' => v' = .int .u64 t23 ∧ G = G' ∧ [(b20, .cells #[.slice AR130 t11.1.length cR130] 55 (0, 0))] :: CR130 :: [(b10, .cells #[.int .i64 ((l1.getD y4.toNat z36).f0), .int .i64 ((l1.getD y4.toNat z36).f1), .int .i64 ((l1.getD y4.toNat z36).f2), .int .i64 ((l1.getD y4.toNat z36).f3), .string ((l1.getD y4.toNat z36).f4)] 36 (0, 0))] :: [(b0, .cells #[mpv Ay5_f0, mpv Ay5_f1] 97 (0, 0))] :: Cy5_f0 :: Cy5_f1 :: Γ = Γ') (f := 57) (args := [.slice (some ⟨b20, 0, none⟩) ([t11.1] : List (List Int)).length 1]) (by kernel_rfl) (fun W hI => (Calls.lendN (Φ := fun v' N => v' = .int .u64 t23 ∧ N = []) (H := []) (i := 1) rfl hI (fun _ e l27 nl27 hI => by subst e; exact Calls.lendN (Φ := fun v' N => v' = .int .u64 t23 ∧ N = []) (H := []) (i := 0) rfl hI (fun _ e l28 nl28 hI => by subst e; exact (((digest_Of_calls kn7 ([t11.1] : List (List Int)) (some ⟨b20, 0, none⟩) 1 ((Ow.lit (kd := (kSlice (kInt .u8))) (b := b20) (T := 55) (xs := ([t11.1] : List (List Int))) (cs := [.slice AR130 t11.1.length cR130]) (.cons (x := t11.1) (cs := [.slice AR130 t11.1.length cR130]) ⟨AR130, cR130, rfl, (HR130.rdN l27 nl27)⟩ .nil)).rdN l28 nl28) t23 ht24 hI)).mono fun _ _ hr => by obtain ⟨_, _, _, rfl, hd, hI⟩ := hr; obtain ⟨rfl, rfl, rfl⟩ := hd; exact ⟨_, _, _, rfl, ⟨[], ⟨rfl, rfl⟩, rfl, rfl⟩, hI⟩)))).mono fun _ _ hr => by obtain ⟨_, _, _, rfl, ⟨_, hd, rfl, rfl⟩, hI⟩ := hr; obtain ⟨rfl, rfl⟩ := hd; exact ⟨_, _, _, rfl, ⟨rfl, rfl, rfl⟩, hI⟩)) ?_
            rintro _ _ _ ⟨rfl, rfl, rfl⟩
            refine ⟨_, _, Under.refl, Under.refl, ?_⟩
            refine WA.pure [10] [0, 5, 7, 14, 15, 16, 43, 45, 50] (m := 1) (b' := 2047) (L' := [(0, .pointer (some ⟨b0, 0, none⟩)), (5, .int .i64 y3), (7, .pointer (some ⟨b10, 0, none⟩)), (14, .slice Al1 l1.length cl1), (15, .int .i64 (l1.length : Int)), (16, .int .i64 y4), (43, mpv Ay5_f0), (45, .agg #[.int .i64 ((l1.getD y4.toNat z36).f0), .int .i64 ((l1.getD y4.toNat z36).f1)]), (50, .agg #[.int .i64 ((l1.getD y4.toNat z36).f0), .int .i64 ((l1.getD y4.toNat z36).f1), .int .i64 ((l1.getD y4.toNat z36).f2), .int .i64 ((l1.getD y4.toNat z36).f3), .string ((l1.getD y4.toNat z36).f4), .int .u64 t23])]) (by kernel_rfl) (NoPanic.then (NoPanic.block (NoPanic.then (NoPanic.then (NoPanic.block (NoPanic.then (NoPanic.then (NoPanic.body)))))))) Under.refl hS (by kernel_rfl) ?_
            refine WA.opK (i := 11) (kw' := 12) (m := 0) (b' := 4095) (by kernel_rfl) rfl hS (by kernel_rfl) (op := .mapUpdate 94 (.tmp 43) (.tmp 45) (.tmp 50)) (ty := 0) (d := none) (g := none) (by kernel_rfl) (by kernel_rfl) (by kernel_rfl) (Does.mapPut mt94 ko94 Hy5_f0 (i := 4) rfl (a := (⟨(l1.getD y4.toNat z36).f0, (l1.getD y4.toNat z36).f1⟩ : T32)) (v := (⟨(l1.getD y4.toNat z36).f0, (l1.getD y4.toNat z36).f1, (l1.getD y4.toNat z36).f2, (l1.getD y4.toNat z36).f3, (l1.getD y4.toNat z36).f4, t23⟩ : T103)) (by kernel_rfl) (by kernel_rfl) (by kernel_rfl)) ?_
            rintro _ _ _ ⟨rfl, rfl, CN29, HN29, rfl⟩
            refine ⟨_, _, Under.refl, ?_⟩
            refine WA.done hS (by kernel_rfl) ?_
            refine QP.pick [0, 5, 7, 14, 15, 16] ?_
            refine QP.next ?_
            refine WP.dropAt 1 ?_
            refine WP.dropAt 0 ?_
            refine WP.seqR ?_
            refine WL.pure 0 2 [0, 5, 14, 15, 16, 51, 52] (L' := [(0, .pointer (some ⟨b0, 0, none⟩)), (5, .int .i64 y3), (14, .slice Al1 l1.length cl1), (15, .int .i64 (l1.length : Int)), (16, .int .i64 y4), (51, .pointer (some ⟨b0, 0, none⟩)), (52, .pointer (some ⟨b10, 0, none⟩))]) (by kernel_rfl) (by decide) ?_
            refine WL.tell (op := .load 32 (.tmp 52)) (ty := 32) (d := some 53) (g := none) (by kernel_rfl) (by kernel_rfl) (by kernel_rfl) (Tells.load_box (i := 0) (b := b10) (o := 0) (agg := true) (by rfl) ag32 (by kernel_rfl) (fun h => by cases h) (Nat.le_of_ble_eq_true rfl) (v := .agg #[.int .i64 ((l1.getD y4.toNat z36).f0), .int .i64 ((l1.getD y4.toNat z36).f1)]) (by kernel_rfl)) ?_
            refine WL.front (i := 3) rfl ?_
            refine WL.front (i := 3) rfl ?_
            refine WL.front (i := 3) rfl ?_
            rw [Option.bind_eq_some_iff] at h
            obtain ⟨t30, ht31, h⟩ := h
            refine WL.op (op := .call { callee := (.value (.func 54)), args := #[(.tmp 51), (.tmp 53), (.const (.int .i64 1))], argTypes := #[25, 32, 3] }) (ty := 0) (d := some 54) (g := none) (by kernel_rfl) (by kernel_rfl) (by kernel_rfl) (Does.call (f := 54) (args := [.pointer (some ⟨b0, 0, none⟩), .agg #[.int .i64 ((l1.getD y4.toNat z36).f0), .int .i64 ((l1.getD y4.toNat z36).f1)], .int .i64 1]) (by kernel_rfl) (fun W hI => (tree_Tree_count_calls kn7 (⟨(mput y5.f0 (⟨(l1.getD y4.toNat z36).f0, (l1.getD y4.toNat z36).f1⟩ : T32) (⟨(l1.getD y4.toNat z36).f0, (l1.getD y4.toNat z36).f1, (l1.getD y4.toNat z36).f2, (l1.getD y4.toNat z36).f3, (l1.getD y4.toNat z36).f4, t23⟩ : T103)), y5.f1⟩ : T97) (⟨(l1.getD y4.toNat z36).f0, (l1.getD y4.toNat z36).f1⟩ : T32) 1 b0 Ay5_f0 cy5_f0 CN29 HN29 Ay5_f1 cy5_f1 Cy5_f1 Hy5_f1 t30 ht31 hI))) ?_
            rintro _ _ _ ⟨AR32p0_0, cR32p0_0, CR32p0_0, AR32p0_1, cR32p0_1, CR32p0_1, rfl, HR32p0_0, HR32p0_1, rfl, rfl⟩
            refine WL.restQ 4 [0, 5, 14, 15, 16] (L' := [(0, .pointer (some ⟨b0, 0, none⟩)), (5, .int .i64 y3), (14, .slice Al1 l1.length cl1), (15, .int .i64 (l1.length : Int)), (16, .int .i64 y4)]) (by kernel_rfl) ?_
            refine WP.dropAt 3 ?_
            refine WP.regionP [0, 5, 14, 15, 16] (L' := [(0, .pointer (some ⟨b0, 0, none⟩)), (5, .int .i64 (IntKind.i64.wrap (y3 + 1))), (14, .slice Al1 l1.length cl1), (15, .int .i64 (l1.length : Int)), (16, .int .i64 y4)]) (by kernel_rfl) ?_
            refine QP.blockN ?_
            refine QP.next ?_
            refine WP.pick [0, 5, 14, 15, 16] ?_
            refine WP.regionP [0, 5, 14, 15, 16] (L' := [(0, .pointer (some ⟨b0, 0, none⟩)), (5, .int .i64 (IntKind.i64.wrap (y3 + 1))), (14, .slice Al1 l1.length cl1), (15, .int .i64 (l1.length : Int)), (16, .int .i64 (IntKind.i64.wrap (y4 + 1)))]) (by kernel_rfl) ?_
            refine QP.front (i := 2) rfl ?_
            refine QP.front (i := 2) rfl ?_
            refine QP.front (i := 2) rfl ?_
            refine QP.pick [0, 5, 14, 15, 16] ?_
            exact QP.meet ⟨kn7, Nat.lt_succ_self _, (IntKind.i64.wrap (y3 + 1)), (IntKind.i64.wrap (y4 + 1)), t30, h, AR32p0_0, cR32p0_0, CR32p0_0, AR32p0_1, cR32p0_1, CR32p0_1, rfl, rfl, rfl, HR32p0_0, HR32p0_1⟩
      · replace hc := of_decide_eq_false hc
        rw [if_neg hc] at h
        have hc8 := hc
        clear hc
        refine WP.exit ?_
        refine QP.thenE ?_
        refine QP.thenE ?_
        refine QP.blockE ?_
        refine QP.pick [5] ?_
        exact QP.meet ⟨_, Option.some.inj h, Ay5_f0, cy5_f0, Cy5_f0, Ay5_f1, cy5_f1, Cy5_f1, rfl, rfl, rfl, Hy5_f0, Hy5_f1⟩
  · rintro _ _ _ ⟨s1, rfl, As1_2_f0, cs1_2_f0, Cs1_2_f0, As1_2_f1, cs1_2_f1, Cs1_2_f1, rfl, rfl, rfl, Hs1_2_f0, Hs1_2_f1⟩
    clear h
    replace h := hk2
    refine QP.next ?_
    refine WP.pick [5] ?_
    refine WP.seqP [4] (L' := [(4, .int .i64 s1.1)]) (by kernel_rfl) ?_
    refine WP.ret ?_
    obtain rfl := Option.some.inj h
    exact QP.returned [4] [.int .i64 s1.1] _ (by kernel_rfl) (by kernel_rfl) (by kernel_rfl) (fun W hI => ⟨_, _, _, rfl, ⟨As1_2_f0, cs1_2_f0, Cs1_2_f0, As1_2_f1, cs1_2_f1, Cs1_2_f1, rfl, Hs1_2_f0, Hs1_2_f1, rfl, rfl⟩, hI⟩)

/-! ### (*grapevine/tree.Tree).Len: function 21 -/
def tree_Tree_Len (a0 : T97) : Option Int := some (a0.f0.length : Int)
set_option maxHeartbeats 4000000 in
theorem tree_Tree_Len_calls {B : World} {G : GMap} {Γ : List Chunk} {W : World} (a0 : T97) (b0 : Nat) (Aa0_f0 : Option Addr) (ca0_f0 : Nat) (Ca0_f0 : Chunk) (Ha0_f0 : MpO m94 G Aa0_f0 ca0_f0 a0.f0 Ca0_f0) (Aa0_f1 : Option Addr) (ca0_f1 : Nat) (Ca0_f1 : Chunk) (Ha0_f1 : MpO m95 G Aa0_f1 ca0_f1 a0.f1 Ca0_f1) (r : Int) (h : tree_Tree_Len a0 = some r) (hI : Inv B G ([(b0, .cells #[mpv Aa0_f0, mpv Aa0_f1] 97 (0, 0))] :: Ca0_f0 :: Ca0_f1 :: Γ) W) :
    Calls Tryd.prog 21 [.pointer (some ⟨b0, 0, none⟩)].toArray W (Ret B (fun v G' Γ' => v = .int .i64 r ∧ G = G' ∧ [(b0, .cells #[mpv Aa0_f0, mpv Aa0_f1] 97 (0, 0))] :: Ca0_f0 :: Ca0_f1 :: Γ = Γ')) := by
  refine calls_WP (Γ := [(b0, .cells #[mpv Aa0_f0, mpv Aa0_f1] 97 (0, 0))] :: Ca0_f0 :: Ca0_f1 :: Γ) (G := G) (B := B) Tryd.func21 rfl (by kernel_rfl) ?_ hI
  clear hI
  unfold tree_Tree_Len at h
  refine WP.seqP [0] (L' := [(0, .pointer (some ⟨b0, 0, none⟩))]) (by kernel_rfl) ?_
  refine WP.seq ?_
  refine WP.seqP [0, 4] (L' := [(0, .pointer (some ⟨b0, 0, none⟩)), (4, .bool false)]) (by kernel_rfl) ?_
  refine WP.no (by kernel_rfl) ?_
  refine WP.skip ?_
  refine QP.next ?_
  refine WP.pick [0] ?_
  refine WP.seqR ?_
  refine WL.pure 0 3 [7] (L' := [(7, .pointer (some ⟨b0, 0, none⟩))]) (by kernel_rfl) (by decide) ?_
  refine WL.tell (op := .load 94 (.tmp 7)) (ty := 94) (d := some 8) (g := none) (by kernel_rfl) (by kernel_rfl) (by kernel_rfl) (Tells.load_box (i := 0) (b := b0) (o := 0) (agg := false) (by rfl) ag94 (by kernel_rfl) (fun _ => rfl) (Nat.le_of_ble_eq_true rfl) (v := mpv Aa0_f0) (by kernel_rfl)) ?_
  refine WL.tell (op := .call { callee := (.builtin .len), args := #[(.tmp 8)], argTypes := #[94] }) (ty := 3) (d := some 9) (g := none) (by kernel_rfl) (by kernel_rfl) (by kernel_rfl) (Tells.mapLen mt94 Ha0_f0 (i := 1) rfl (by kernel_rfl)) ?_
  refine WL.restQ 5 [2] (L' := [(2, .int .i64 (a0.f0.length : Int))]) (by kernel_rfl) ?_
  refine WP.ret ?_
  obtain rfl := Option.some.inj h
  exact QP.returned [2] [.int .i64 (a0.f0.length : Int)] _ (by kernel_rfl) (by kernel_rfl) (by kernel_rfl) (fun W hI => ⟨_, _, _, rfl, ⟨rfl, rfl, rfl⟩, hI⟩)

/-! ### grapevine/tree.long: function 59 -/
def tree_long_l0 (a0 : Int) : Nat → Int → Int → Option Int
  | 0, _, _ => none
  | k + 1, y3, y4 => (if y4 < (IntKind.i64.wrap (5 - a0)) then tree_long_l0 a0 k (IntKind.i64.wrap (y3 * 4)) (IntKind.i64.wrap (y4 + 1)) else some y3)
def tree_long (k : Nat) (a0 : Int) : Option Int := ((tree_long_l0 a0 k 1 0).bind fun s1 => some s1)
set_option maxHeartbeats 4000000 in
theorem tree_long_calls {B : World} {G : GMap} {Γ : List Chunk} {W : World} (k : Nat) (a0 : Int) (r : Int) (h : tree_long k a0 = some r) (hI : Inv B G (Γ) W) :
    Calls Tryd.prog 59 [.int .i64 a0].toArray W (Ret B (fun v G' Γ' => v = .int .i64 r ∧ G = G' ∧ Γ = Γ')) := by
  refine calls_WP (Γ := Γ) (G := G) (B := B) Tryd.func59 rfl (by kernel_rfl) ?_ hI
  clear hI
  unfold tree_long at h
  refine WP.seqP [0] (L' := [(0, .int .i64 a0)]) (by kernel_rfl) ?_
  refine WP.seqP [0, 3] (L' := [(0, .int .i64 a0), (3, .int .i64 1)]) (by kernel_rfl) ?_
  refine WP.seq ?_
  refine WP.seqP [3, 5, 6] (L' := [(3, .int .i64 1), (5, .int .i64 (IntKind.i64.wrap (5 - a0))), (6, .int .i64 0)]) (by kernel_rfl) ?_
  rw [Option.bind_eq_some_iff] at h
  obtain ⟨os1, h, hk2⟩ := h
  refine WP.cutQ (fun L' G' Γ' => ∃ s1 : Int, s1 = os1 ∧ L' = [(3, .int .i64 s1)] ∧ G = G' ∧ Γ = Γ') ?_ ?_
  · clear hk2
    refine WP.block ?_
    refine WP.pick [3, 5, 6] ?_
    refine WP.loopF (fun kn5 L' G' Γ' => ∃ (y3 : Int), ∃ (y4 : Int), tree_long_l0 a0 kn5 y3 y4 = some os1 ∧ L' = [(3, .int .i64 y3), (5, .int .i64 (IntKind.i64.wrap (5 - a0))), (6, .int .i64 y4)] ∧ G = G' ∧ Γ = Γ') ?_ k ⟨1, 0, h, rfl, rfl, rfl⟩
    clear h
    rintro kn6 _ _ _ ⟨y3, y4, h, rfl, rfl, rfl⟩
    cases kn6 with
    | zero => exact absurd h (by simp [tree_long_l0])
    | succ kn6 =>
      simp only [tree_long_l0] at h
      refine WP.seqP [3, 5, 6, 7] (L' := [(3, .int .i64 y3), (5, .int .i64 (IntKind.i64.wrap (5 - a0))), (6, .int .i64 y4), (7, .bool (decide (y4 < (IntKind.i64.wrap (5 - a0)))))]) (by kernel_rfl) ?_
      refine WP.seq ?_
      refine WP.cond (b := decide (y4 < (IntKind.i64.wrap (5 - a0)))) (by kernel_rfl) (fun hc => ?_) (fun hc => ?_)
      · replace hc := of_decide_eq_true hc
        rw [if_pos hc] at h
        have hc7 := hc
        clear hc
        refine WP.skip ?_
        refine QP.next ?_
        refine WP.pick [3, 5, 6] ?_
        refine WP.seq ?_
        refine WP.block ?_
        refine WP.regionP [3, 5, 6] (L' := [(3, .int .i64 (IntKind.i64.wrap (y3 * 4))), (5, .int .i64 (IntKind.i64.wrap (5 - a0))), (6, .int .i64 y4)]) (by kernel_rfl) ?_
        refine QP.blockN ?_
        refine QP.next ?_
        refine WP.pick [3, 5, 6] ?_
        refine WP.regionP [3, 5, 6] (L' := [(3, .int .i64 (IntKind.i64.wrap (y3 * 4))), (5, .int .i64 (IntKind.i64.wrap (5 - a0))), (6, .int .i64 (IntKind.i64.wrap (y4 + 1)))]) (by kernel_rfl) ?_
        refine QP.pick [3, 5, 6] ?_
        exact QP.meet ⟨kn6, Nat.lt_succ_self _, (IntKind.i64.wrap (y3 * 4)), (IntKind.i64.wrap (y4 + 1)), h, rfl, rfl, rfl⟩
      · replace hc := of_decide_eq_false hc
        rw [if_neg hc] at h
        have hc7 := hc
        clear hc
        refine WP.exit ?_
        refine QP.thenE ?_
        refine QP.thenE ?_
        refine QP.blockE ?_
        refine QP.pick [3] ?_
        exact QP.meet ⟨_, Option.some.inj h, rfl, rfl, rfl⟩
  · rintro _ _ _ ⟨s1, rfl, rfl, rfl, rfl⟩
    clear h
    replace h := hk2
    refine QP.next ?_
    refine WP.pick [3] ?_
    refine WP.seqP [2] (L' := [(2, .int .i64 s1)]) (by kernel_rfl) ?_
    refine WP.ret ?_
    obtain rfl := Option.some.inj h
    exact QP.returned [2] [.int .i64 s1] _ (by kernel_rfl) (by kernel_rfl) (by kernel_rfl) (fun W hI => ⟨_, _, _, rfl, ⟨rfl, rfl, rfl⟩, hI⟩)

/-! ### grapevine/digest.All: function 63 -/
def digest_All_l1 (l0 : List Int) (y5 : Int) : Nat → (List Int) → Int → Option (List Int)
  | 0, _, _ => none
  | k + 1, y15, y16 => (if y16 ≥ 0 then (if 0 ≤ y16 then (if y15.length + ([IntKind.u8.wrap (shrK .u64 (l0.getD y5.toNat 0) y16)] : List Int).length ≤ 1073741824 then digest_All_l1 l0 y5 k (y15 ++ ([IntKind.u8.wrap (shrK .u64 (l0.getD y5.toNat 0) y16)] : List Int)) (IntKind.i64.wrap (y16 - 8)) else none) else none) else some y15)
def digest_All_l0 (l0 : List Int) : Nat → (List Int) → Bool → Int → Option ((List Int) × Bool)
  | 0, _, _, _ => none
  | k + 1, y3, y4, y5 => (if y5 < (l0.length : Int) then (if 0 ≤ y5 ∧ y5 < (l0.length : Int) then ((if y4 = true then some true else some ((l0.getD y5.toNat 0) != 0)).bind fun s10 => ((digest_All_l1 l0 y5 k y3 56).bind fun s13 => digest_All_l0 l0 k s13 s10 (IntKind.i64.wrap (y5 + 1)))) else none) else some (y3, y4))
def digest_All (k : Nat) (l0 : List Int) : Option Int := ((digest_All_l0 l0 k ([] : List Int) false 0).bind fun s1 => (if (!s1.2) = true then some 0 else ((digest_Of k ([s1.1] : List (List Int))).bind fun t30 => some t30)))
set_option maxHeartbeats 4000000 in
theorem digest_All_calls {B : World} {G : GMap} {Γ : List Chunk} {W : World} (k : Nat) (l0 : List Int) (Al0 : Option Addr) (cl0 : Nat) (Hl0 : Rd (kInt .u64) G Al0 cl0 l0) (r : Int) (h : digest_All k l0 = some r) (hI : Inv B G (Γ) W) :
    Calls Tryd.prog 63 [.slice Al0 l0.length cl0].toArray W (Ret B (fun v G' Γ' => v = .int .u64 r ∧ G = G' ∧ Γ = Γ')) := by
  refine calls_WP (Γ := Γ) (G := G) (B := B) Tryd.func63 rfl (by kernel_rfl) ?_ hI
  clear hI
  unfold digest_All at h
  refine WP.seqP [0] (L' := [(0, .slice Al0 l0.length cl0)]) (by kernel_rfl) ?_
  refine WP.seqP [0, 3] (L' := [(0, .slice Al0 l0.length cl0), (3, .slice none 0 0)]) (by kernel_rfl) ?_
  refine WP.seqP [0, 3, 4] (L' := [(0, .slice Al0 l0.length cl0), (3, .slice none 0 0), (4, .bool false)]) (by kernel_rfl) ?_
  refine WP.seq ?_
  refine WP.seqP [3, 4, 8, 9, 10] (L' := [(3, .slice none 0 0), (4, .bool false), (8, .slice Al0 l0.length cl0), (9, .int .i64 (l0.length : Int)), (10, .int .i64 0)]) (by kernel_rfl) ?_
  rw [Option.bind_eq_some_iff] at h
  obtain ⟨os1, h, hk2⟩ := h
  refine WP.cutQ (fun L' G' Γ' => ∃ s1 : (List Int) × Bool, s1 = os1 ∧ ∃ (As1_1 : Option Addr), ∃ (cs1_1 : Nat), ∃ (Cs1_1 : Chunk), L' = [(3, .slice As1_1 s1.1.length cs1_1), (4, .bool s1.2)] ∧ G = G' ∧ Cs1_1 :: Γ = Γ' ∧ Ow (kInt .u8) G As1_1 cs1_1 s1.1 Cs1_1) ?_ ?_
  · clear hk2
    refine WP.block ?_
    refine WP.addNil ?_
    refine WP.pick [3, 4, 8, 9, 10] ?_
    refine WP.loopF (fun kn6 L' G' Γ' => ∃ (y3 : List Int), ∃ (y4 : Bool), ∃ (y5 : Int), digest_All_l0 l0 kn6 y3 y4 y5 = some os1 ∧ ∃ (Ay3 : Option Addr), ∃ (cy3 : Nat), ∃ (Cy3 : Chunk), L' = [(3, .slice Ay3 y3.length cy3), (4, .bool y4), (8, .slice Al0 l0.length cl0), (9, .int .i64 (l0.length : Int)), (10, .int .i64 y5)] ∧ G = G' ∧ Cy3 :: Γ = Γ' ∧ Ow (kInt .u8) G Ay3 cy3 y3 Cy3) ?_ k ⟨([] : List Int), false, 0, h, none, 0, [], rfl, rfl, rfl, (Ow.nil (kInt .u8) _)⟩
    clear h
    rintro kn7 _ _ _ ⟨y3, y4, y5, h, Ay3, cy3, Cy3, rfl, rfl, rfl, Hy3⟩
    cases kn7 with
    | zero => exact absurd h (by simp [digest_All_l0])
    | succ kn7 =>
      simp only [digest_All_l0] at h
      refine WP.seqP [3, 4, 8, 9, 10, 11] (L' := [(3, .slice Ay3 y3.length cy3), (4, .bool y4), (8, .slice Al0 l0.length cl0), (9, .int .i64 (l0.length : Int)), (10, .int .i64 y5), (11, .bool (decide (y5 < (l0.length : Int))))]) (by kernel_rfl) ?_
      refine WP.seq ?_
      refine WP.cond (b := decide (y5 < (l0.length : Int))) (by kernel_rfl) (fun hc => ?_) (fun hc => ?_)
      · replace hc := of_decide_eq_true hc
        rw [if_pos hc] at h
        have hc8 := hc
        clear hc
        refine WP.skip ?_
        refine QP.next ?_
        refine WP.pick [3, 4, 8, 9, 10] ?_
        refine WP.seq ?_
        refine WP.block ?_
        refine WP.seqR ?_
        by_cases hb9 : 0 ≤ y5 ∧ y5 < (l0.length : Int)
        case neg => rw [if_neg hb9] at h; cases h
        rw [if_pos hb9] at h
        refine WL.tell (op := .indexAddr 53 (.tmp 8) (.tmp 10)) (ty := 0) (d := some 12) (g := none) (by kernel_rfl) (by kernel_rfl) (by kernel_rfl) (Tells.indexAddr (A := Al0) (n := l0.length) (c := cl0) (k := .i64) (j := y5) (by kernel_rfl) (by kernel_rfl) (Hl0.isSome hb9.1 hb9.2) hb9.1 hb9.2 sl53) ?_
        refine WL.tellE (op := .load 44 (.tmp 12)) (ty := 44) (d := some 13) (g := none) (by kernel_rfl) (by kernel_rfl) (by kernel_rfl) (Hl0.load (agg := false) hb9.1 hb9.2 0 ag44 (fun _ => rfl) (by kernel_rfl)) ?_
        rintro _ rfl
        refine WL.restQ 2 [3, 4, 6, 8, 9, 10] (L' := [(3, .slice Ay3 y3.length cy3), (4, .bool y4), (6, .int .u64 (l0.getD y5.toNat 0)), (8, .slice Al0 l0.length cl0), (9, .int .i64 (l0.length : Int)), (10, .int .i64 y5)]) (by kernel_rfl) ?_
        rw [Option.bind_eq_some_iff] at h
        obtain ⟨os10, h, hk11⟩ := h
        refine WP.cut (fun L' G' Γ' => ∃ s10 : Bool, s10 = os10 ∧ L' = [(3, .slice Ay3 y3.length cy3), (4, .bool s10), (6, .int .u64 (l0.getD y5.toNat 0)), (8, .slice Al0 l0.length cl0), (9, .int .i64 (l0.length : Int)), (10, .int .i64 y5)] ∧ G = G' ∧ Cy3 :: Γ = Γ') ?_ ?_
        · clear hk11
          refine WP.region ?_
          refine WL.pure 0 2 [3, 4, 6, 8, 9, 10, 15] (L' := [(3, .slice Ay3 y3.length cy3), (4, .bool y4), (6, .int .u64 (l0.getD y5.toNat 0)), (8, .slice Al0 l0.length cl0), (9, .int .i64 (l0.length : Int)), (10, .int .i64 y5), (15, .bool y4)]) (by kernel_rfl) (by decide) ?_
          refine WL.split 15 (b := y4) (by kernel_rfl) (fun hc => ?_) (fun hc => ?_)
          · replace hc := hc
            rw [if_pos hc] at h
            have hc12 := hc
            clear hc
            refine WL.rest 2 [3, 4, 6, 8, 9, 10] (L' := [(3, .slice Ay3 y3.length cy3), (4, .bool true), (6, .int .u64 (l0.getD y5.toNat 0)), (8, .slice Al0 l0.length cl0), (9, .int .i64 (l0.length : Int)), (10, .int .i64 y5)]) (by kernel_rfl) ?_
            refine QP.pick [3, 4, 6, 8, 9, 10] ?_
            exact QP.meet ⟨_, Option.some.inj h, rfl, rfl, rfl⟩
          · replace hc := (Bool.eq_false_iff.1 hc)
            rw [if_neg hc] at h
            have hc12 := hc
            clear hc
            refine WL.rest 2 [3, 4, 6, 8, 9, 10] (L' := [(3, .slice Ay3 y3.length cy3), (4, .bool ((l0.getD y5.toNat 0) != 0)), (6, .int .u64 (l0.getD y5.toNat 0)), (8, .slice Al0 l0.length cl0), (9, .int .i64 (l0.length : Int)), (10, .int .i64 y5)]) (by kernel_rfl) ?_
            refine QP.pick [3, 4, 6, 8, 9, 10] ?_
            exact QP.meet ⟨_, Option.some.inj h, rfl, rfl, rfl⟩
        · rintro _ _ _ ⟨s10, rfl, rfl, rfl, rfl⟩
          clear h
          replace h := hk11
          refine WP.seqP [3, 4, 6, 7, 8, 9, 10] (L' := [(3, .slice Ay3 y3.length cy3), (4, .bool s10), (6, .int .u64 (l0.getD y5.toNat 0)), (7, .int .i64 56), (8, .slice Al0 l0.length cl0), (9, .int .i64 (l0.length : Int)), (10, .int .i64 y5)]) (by kernel_rfl) ?_
          rw [Option.bind_eq_some_iff] at h
          obtain ⟨os13, h, hk14⟩ := h
          refine WP.cutQ (fun L' G' Γ' => ∃ s13 : (List Int), s13 = os13 ∧ ∃ (As13 : Option Addr), ∃ (cs13 : Nat), ∃ (Cs13 : Chunk), L' = [(3, .slice As13 s13.length cs13), (4, .bool s10), (8, .slice Al0 l0.length cl0), (9, .int .i64 (l0.length : Int)), (10, .int .i64 y5)] ∧ G = G' ∧ Cs13 :: Γ = Γ' ∧ Ow (kInt .u8) G As13 cs13 s13 Cs13) ?_ ?_
          · clear hk14
            refine WP.block ?_
            refine WP.pick [3, 4, 6, 7, 8, 9, 10] ?_
            refine WP.loopF (fun kn17 L' G' Γ' => ∃ (y15 : List Int), ∃ (y16 : Int), digest_All_l1 l0 y5 kn17 y15 y16 = some os13 ∧ ∃ (Ay15 : Option Addr), ∃ (cy15 : Nat), ∃ (Cy15 : Chunk), L' = [(3, .slice Ay15 y15.length cy15), (4, .bool s10), (6, .int .u64 (l0.getD y5.toNat 0)), (7, .int .i64 y16), (8, .slice Al0 l0.length cl0), (9, .int .i64 (l0.length : Int)), (10, .int .i64 y5)] ∧ G = G' ∧ Cy15 :: Γ = Γ' ∧ Ow (kInt .u8) G Ay15 cy15 y15 Cy15) ?_ kn7 ⟨y3, 56, h, Ay3, cy3, Cy3, rfl, rfl, rfl, Hy3⟩
            clear h
            rintro kn18 _ _ _ ⟨y15, y16, h, Ay15, cy15, Cy15, rfl, rfl, rfl, Hy15⟩
            cases kn18 with
            | zero => exact absurd h (by simp [digest_All_l1])
            | succ kn18 =>
              simp only [digest_All_l1] at h
              refine WP.seq ?_
              refine WP.seqP [3, 4, 6, 7, 8, 9, 10, 20] (L' := [(3, .slice Ay15 y15.length cy15), (4, .bool s10), (6, .int .u64 (l0.getD y5.toNat 0)), (7, .int .i64 y16), (8, .slice Al0 l0.length cl0), (9, .int .i64 (l0.length : Int)), (10, .int .i64 y5), (20, .bool (decide (y16 ≥ 0)))]) (by kernel_rfl) ?_
              refine WP.cond (b := decide (y16 ≥ 0)) (by kernel_rfl) (fun hc => ?_) (fun hc => ?_)
              · replace hc := of_decide_eq_true hc
                rw [if_pos hc] at h
                have hc19 := hc
                clear hc
                refine WP.skip ?_
                refine QP.next ?_
                refine WP.pick [3, 4, 6, 7, 8, 9, 10] ?_
                refine WP.seq ?_
                refine WP.block ?_
                refine WP.region ?_
                refine WL.pure 0 3 [3, 4, 6, 7, 8, 9, 10, 23, 24, 25] (L' := [(3, .slice Ay15 y15.length cy15), (4, .bool s10), (6, .int .u64 (l0.getD y5.toNat 0)), (7, .int .i64 y16), (8, .slice Al0 l0.length cl0), (9, .int .i64 (l0.length : Int)), (10, .int .i64 y5), (23, .slice Ay15 y15.length cy15), (24, .int .u64 (l0.getD y5.toNat 0)), (25, .int .i64 y16)]) (by kernel_rfl) (by decide) ?_
                by_cases hb20 : 0 ≤ y16
                case neg => rw [if_neg hb20] at h; cases h
                rw [if_pos hb20] at h
                refine WL.tell (op := .binOp .shr 44 (.tmp 24) (.tmp 25) 3) (ty := 44) (d := some 26) (g := none) (by kernel_rfl) (by kernel_rfl) (by kernel_rfl) (Tells.shr (k := .u64) (k' := .i64) (a := (l0.getD y5.toNat 0)) (b := y16) (by kernel_rfl) (by kernel_rfl) hb20) ?_
                refine WL.pure 4 5 [3, 4, 6, 7, 8, 9, 10, 23, 27] (L' := [(3, .slice Ay15 y15.length cy15), (4, .bool s10), (6, .int .u64 (l0.getD y5.toNat 0)), (7, .int .i64 y16), (8, .slice Al0 l0.length cl0), (9, .int .i64 (l0.length : Int)), (10, .int .i64 y5), (23, .slice Ay15 y15.length cy15), (27, .int .u8 (IntKind.u8.wrap (shrK .u64 (l0.getD y5.toNat 0) y16)))]) (by kernel_rfl) (by decide) ?_
                refine WL.op (op := .buildSlice 55 1 #[(0, (.tmp 27))]) (ty := 55) (d := some 28) (g := none) (by kernel_rfl) (by kernel_rfl) (by kernel_rfl) (Does.new (o := .cells #[.int .u8 (IntKind.u8.wrap (shrK .u64 (l0.getD y5.toNat 0) y16))] 5 (0, 0)) (v := fun r => .slice (some ⟨r, 0, none⟩) 1 1) (fun r => by kernel_rfl)) ?_
                rintro _ _ _ ⟨b21, rfl, rfl, rfl⟩
                have Ho23 : Ow (kInt .u8) G (some ⟨b21, 0, none⟩) 1 ([IntKind.u8.wrap (shrK .u64 (l0.getD y5.toNat 0) y16)] : List Int) [(b21, .cells #[.int .u8 (IntKind.u8.wrap (shrK .u64 (l0.getD y5.toNat 0) y16))] 5 (0, 0))] := Ow.lit (kd := (kInt .u8)) (G := G) (b := b21) (T := 5) (xs := ([IntKind.u8.wrap (shrK .u64 (l0.getD y5.toNat 0) y16)] : List Int)) (cs := [.int .u8 (IntKind.u8.wrap (shrK .u64 (l0.getD y5.toNat 0) y16))]) (.cons (x := (IntKind.u8.wrap (shrK .u64 (l0.getD y5.toNat 0) y16))) (cs := [.int .u8 (IntKind.u8.wrap (shrK .u64 (l0.getD y5.toNat 0) y16))]) (by exact rfl) .nil)
                by_cases hb24 : y15.length + ([IntKind.u8.wrap (shrK .u64 (l0.getD y5.toNat 0) y16)] : List Int).length ≤ 1073741824
                case neg => rw [if_neg hb24] at h; cases h
                rw [if_pos hb24] at h
                refine WL.op (op := .call { callee := (.builtin .append), args := #[(.tmp 23), (.tmp 28)], argTypes := #[55, 55] }) (ty := 55) (d := some 29) (g := none) (by kernel_rfl) (by kernel_rfl) (by kernel_rfl) (Ow.append (ys := ([IntKind.u8.wrap (shrK .u64 (l0.getD y5.toNat 0) y16)] : List Int)) (v := .slice (some ⟨b21, 0, none⟩) ([IntKind.u8.wrap (shrK .u64 (l0.getD y5.toNat 0) y16)] : List Int).length 1) Hy15 (i := 1) rfl (by kernel_rfl) (by kernel_rfl) (Ho23.src (i := 0) rfl) sl55 ze5 nt55 (by decide) hb24) ?_
                rintro _ _ _ ⟨rfl, AN25, cN25, CN25, rfl, HN25, rfl⟩
                refine WL.rest 7 [3, 4, 6, 7, 8, 9, 10] (L' := [(3, .slice AN25 (y15 ++ ([IntKind.u8.wrap (shrK .u64 (l0.getD y5.toNat 0) y16)] : List Int)).length cN25), (4, .bool s10), (6, .int .u64 (l0.getD y5.toNat 0)), (7, .int .i64 y16), (8, .slice Al0 l0.length cl0), (9, .int .i64 (l0.length : Int)), (10, .int .i64 y5)]) (by kernel_rfl) ?_
                refine QP.blockN ?_
                refine QP.next ?_
                refine WP.pick [3, 4, 6, 7, 8, 9, 10] ?_
                refine WP.regionP [3, 4, 6, 7, 8, 9, 10] (L' := [(3, .slice AN25 (y15 ++ ([IntKind.u8.wrap (shrK .u64 (l0.getD y5.toNat 0) y16)] : List Int)).length cN25), (4, .bool s10), (6, .int .u64 (l0.getD y5.toNat 0)), (7, .int .i64 (IntKind.i64.wrap (y16 - 8))), (8, .slice Al0 l0.length cl0), (9, .int .i64 (l0.length : Int)), (10, .int .i64 y5)]) (by kernel_rfl) ?_
                refine QP.dropAt 0 ?_
                refine QP.pick [3, 4, 6, 7, 8, 9, 10] ?_
                exact QP.meet ⟨kn18, Nat.lt_succ_self _, (y15 ++ ([IntKind.u8.wrap (shrK .u64 (l0.getD y5.toNat 0) y16)] : List Int)), (IntKind.i64.wrap (y16 - 8)), h, AN25, cN25, CN25, rfl, rfl, rfl, HN25⟩
              · replace hc := of_decide_eq_false hc
                rw [if_neg hc] at h
                have hc19 := hc
                clear hc
                refine WP.exit ?_
                refine QP.thenE ?_
                refine QP.thenE ?_
                refine QP.blockE ?_
                refine QP.pick [3, 4, 8, 9, 10] ?_
                exact QP.meet ⟨_, Option.some.inj h, Ay15, cy15, Cy15, rfl, rfl, rfl, Hy15⟩
          · rintro _ _ _ ⟨s13, rfl, As13, cs13, Cs13, rfl, rfl, rfl, Hs13⟩
            clear h
            replace h := hk14
            refine QP.blockN ?_
            refine QP.next ?_
            refine WP.pick [3, 4, 8, 9, 10] ?_
            refine WP.regionP [3, 4, 8, 9, 10] (L' := [(3, .slice As13 s13.length cs13), (4, .bool s10), (8, .slice Al0 l0.length cl0), (9, .int .i64 (l0.length : Int)), (10, .int .i64 (IntKind.i64.wrap (y5 + 1)))]) (by kernel_rfl) ?_
            refine QP.pick [3, 4, 8, 9, 10] ?_
            exact QP.meet ⟨kn7, Nat.lt_succ_self _, s13, s10, (IntKind.i64.wrap (y5 + 1)), h, As13, cs13, Cs13, rfl, rfl, rfl, Hs13⟩
      · replace hc := of_decide_eq_false hc
        rw [if_neg hc] at h
        have hc8 := hc
        clear hc
        refine WP.exit ?_
        refine QP.thenE ?_
        refine QP.thenE ?_
        refine QP.blockE ?_
        refine QP.pick [3, 4] ?_
        exact QP.meet ⟨_, Option.some.inj h, Ay3, cy3, Cy3, rfl, rfl, rfl, Hy3⟩
  · rintro _ _ _ ⟨s1, rfl, As1_1, cs1_1, Cs1_1, rfl, rfl, rfl, Hs1_1⟩
    clear h
    replace h := hk2
    refine QP.next ?_
    refine WP.pick [3, 4] ?_
    refine WP.seq ?_
    refine WP.seqP [3, 32] (L' := [(3, .slice As1_1 s1.1.length cs1_1), (32, .bool (!s1.2))]) (by kernel_rfl) ?_
    refine WP.cond (b := (!s1.2)) (by kernel_rfl) (fun hc => ?_) (fun hc => ?_)
    · replace hc := hc
      rw [if_pos hc] at h
      have hc26 := hc
      clear hc
      refine WP.seqP [2] (L' := [(2, .int .u64 0)]) (by kernel_rfl) ?_
      refine WP.dropAt 0 ?_
      refine WP.ret ?_
      refine QP.thenR ?_
      obtain rfl := Option.some.inj h
      exact QP.returned [2] [.int .u64 0] _ (by kernel_rfl) (by kernel_rfl) (by kernel_rfl) (fun W hI => ⟨_, _, _, rfl, ⟨rfl, rfl, rfl⟩, hI⟩)
    · replace hc := (Bool.eq_false_iff.1 hc)
      rw [if_neg hc] at h
      have hc26 := hc
      clear hc
      refine WP.skip ?_
      refine QP.next ?_
      refine WP.pick [3] ?_
      refine WP.seqR ?_
      refine WL.pure 0 1 [33] (L' := [(33, .slice As1_1 s1.1.length cs1_1)]) (by kernel_rfl) (by decide) ?_
      refine WL.op (op := .buildSlice 114 1 #[(0, (.tmp 33))]) (ty := 114) (d := some 34) (g := none) (by kernel_rfl) (by kernel_rfl) (by kernel_rfl) (Does.new (o := .cells #[.slice As1_1 s1.1.length cs1_1] 55 (0, 0)) (v := fun r => .slice (some ⟨r, 0, none⟩) 1 1) (fun r => by kernel_rfl)) ?_
      rintro _ _ _ ⟨b27, rfl, rfl, rfl⟩
      rw [Option.bind_eq_some_iff] at h
      obtain ⟨t30, ht31, h⟩ := h
      refine WL.op (op := .call { callee := (.value (.func 57)), args := #[(.tmp 34)], argTypes := #[114] }) (ty := 44) (d := some 35) (g := none) (by kernel_rfl) (by kernel_rfl) (by kernel_rfl) (Does.call (Φ := fun v' G' Γ' => v' = .int .u64 t30 ∧ G = G' ∧ [(b27, .cells #[.slice As1_1 s1.1.length cs1_1] 55 (0, 0))] :: Cs1_1 :: Γ = Γ') (f := 57) (args := [.slice (some ⟨b27, 0, none⟩) ([s1.1] : List (List Int)).length 1]) (by kernel_rfl) (fun W hI => (Calls.lendN (Φ := fun v' N => v' = .int .u64 t30 ∧ N = []) (H := []) (i := 1) rfl hI (fun _ e l34 nl34 hI => by subst e; exact Calls.lendN (Φ := fun v' N => v' = .int .u64 t30 ∧ N = []) (H := []) (i := 0) rfl hI (fun _ e l35 nl35 hI => by subst e; exact (((digest_Of_calls k ([s1.1] : List (List Int)) (some ⟨b27, 0, none⟩) 1 ((Ow.lit (kd := (kSlice (kInt .u8))) (b := b27) (T := 55) (xs := ([s1.1] : List (List Int))) (cs := [.slice As1_1 s1.1.length cs1_1]) (.cons (x := s1.1) (cs := [.slice As1_1 s1.1.length cs1_1]) ⟨As1_1, cs1_1, rfl, (Hs1_1.rdN l34 nl34)⟩ .nil)).rdN l35 nl35) t30 ht31 hI)).mono fun _ _ hr => by obtain ⟨_, _, _, rfl, hd, hI⟩ := hr; obtain ⟨rfl, rfl, rfl⟩ := hd; exact ⟨_, _, _, rfl, ⟨[], ⟨rfl, rfl⟩, rfl, rfl⟩, hI⟩)))).mono fun _ _ hr => by obtain ⟨_, _, _, rfl, ⟨_, hd, rfl, rfl⟩, hI⟩ := hr; obtain ⟨rfl, rfl⟩ := hd; exact ⟨_, _, _, rfl, ⟨rfl, rfl, rfl⟩, hI⟩)) ?_
      rintro _ _ _ ⟨rfl, rfl, rfl⟩
      refine WL.restQ 3 [2] (L' := [(2, .int .u64 t30)]) (by kernel_rfl) ?_
      refine WP.dropAt 1 ?_
      refine WP.dropAt 0 ?_
      refine WP.ret ?_
      obtain rfl := Option.some.inj h
      exact QP.returned [2] [.int .u64 t30] _ (by kernel_rfl) (by kernel_rfl) (by kernel_rfl) (fun W hI => ⟨_, _, _, rfl, ⟨rfl, rfl, rfl⟩, hI⟩)

/-! ### (*grapevine/tree.Tree).sum: function 60 -/
def tree_Tree_sum_l0 (a0 : T97) (a1 : Int) (a2 : Int) (a3 : Int) (rec_ : T97 → Int → Int → Int → Option Int) : Nat → (List Int) → Int → Option (List Int)
  | 0, _, _ => none
  | k + 1, y5, y6 => (if y6 < 4 then ((rec_ a0 a1 (IntKind.i64.wrap (a2 + 1)) (IntKind.i64.wrap ((IntKind.i64.wrap (4 * a3)) + y6))).bind fun t10 => (if y5.length + ([t10] : List Int).length ≤ 1073741824 then tree_Tree_sum_l0 a0 a1 a2 a3 rec_ k (y5 ++ ([t10] : List Int)) (IntKind.i64.wrap (y6 + 1)) else none)) else some y5)
def tree_Tree_sum : Nat → T97 → Int → Int → Int → Option Int
  | 0, _, _, _, _ => none
  | k + 1, a0, a1, a2, a3 => (if ((mget a0.f1 (⟨a1, a2, a3⟩ : T130)).getD 0) = 0 then some 0 else (if a2 = 5 then some (((mget a0.f0 (⟨a1, a3⟩ : T32)).getD z103).f5) else ((tree_Tree_sum_l0 a0 a1 a2 a3 (tree_Tree_sum k) k ([] : List Int) 0).bind fun s3 => ((digest_All k s3).bind fun t19 => some t19))))
set_option maxHeartbeats 4000000 in
theorem tree_Tree_sum_calls_k (k : Nat) : ∀ {B : World} {G : GMap} {Γ : List Chunk} {W : World} (a0 : T97) (a1 : Int) (a2 : Int) (a3 : Int) (b0 : Nat) (Aa0_f0 : Option Addr) (ca0_f0 : Nat) (Ca0_f0 : Chunk) (Ha0_f0 : MpO m94 G Aa0_f0 ca0_f0 a0.f0 Ca0_f0) (Aa0_f1 : Option Addr) (ca0_f1 : Nat) (Ca0_f1 : Chunk) (Ha0_f1 : MpO m95 G Aa0_f1 ca0_f1 a0.f1 Ca0_f1) (r : Int) (h : tree_Tree_sum k a0 a1 a2 a3 = some r) (hI : Inv B G ([(b0, .cells #[mpv Aa0_f0, mpv Aa0_f1] 97 (0, 0))] :: Ca0_f0 :: Ca0_f1 :: Γ) W),
    Calls Tryd.prog 60 [.pointer (some ⟨b0, 0, none⟩), .int .i64 a1, .int .i64 a2, .int .i64 a3].toArray W (Ret B (fun v G' Γ' => v = .int .u64 r ∧ G = G' ∧ [(b0, .cells #[mpv Aa0_f0, mpv Aa0_f1] 97 (0, 0))] :: Ca0_f0 :: Ca0_f1 :: Γ = Γ')) := by
  induction k with
  | zero => intro B G Γ W a0 a1 a2 a3 b0 Aa0_f0 ca0_f0 Ca0_f0 Ha0_f0 Aa0_f1 ca0_f1 Ca0_f1 Ha0_f1 r h hI; exact absurd h (by simp [tree_Tree_sum])
  | succ kf ih =>
    intro B G Γ W a0 a1 a2 a3 b0 Aa0_f0 ca0_f0 Ca0_f0 Ha0_f0 Aa0_f1 ca0_f1 Ca0_f1 Ha0_f1 r h hI
    refine calls_WP (Γ := [(b0, .cells #[mpv Aa0_f0, mpv Aa0_f1] 97 (0, 0))] :: Ca0_f0 :: Ca0_f1 :: Γ) (G := G) (B := B) Tryd.func60 rfl (by kernel_rfl) ?_ hI
    clear hI
    simp only [tree_Tree_sum] at h
    refine WP.seqP [0, 1, 2, 3] (L' := [(0, .pointer (some ⟨b0, 0, none⟩)), (1, .int .i64 a1), (2, .int .i64 a2), (3, .int .i64 a3)]) (by kernel_rfl) ?_
    refine WP.seq ?_
    refine WP.block ?_
    refine WP.seqR ?_
    refine WL.pure 0 3 [0, 1, 2, 3, 14] (L' := [(0, .pointer (some ⟨b0, 0, none⟩)), (1, .int .i64 a1), (2, .int .i64 a2), (3, .int .i64 a3), (14, .pointer (some ⟨b0, 1, none⟩))]) (by kernel_rfl) (by decide) ?_
    refine WL.tell (op := .load 95 (.tmp 14)) (ty := 95) (d := some 15) (g := none) (by kernel_rfl) (by kernel_rfl) (by kernel_rfl) (Tells.load_box (i := 0) (b := b0) (o := 1) (agg := false) (by rfl) ag95 (by kernel_rfl) (fun _ => rfl) (Nat.le_of_ble_eq_true rfl) (v := mpv Aa0_f1) (by kernel_rfl)) ?_
    refine WL.pure 4 8 [0, 1, 2, 3, 15, 19] (L' := [(0, .pointer (some ⟨b0, 0, none⟩)), (1, .int .i64 a1), (2, .int .i64 a2), (3, .int .i64 a3), (15, mpv Aa0_f1), (19, .agg #[.int .i64 a1, .int .i64 a2, .int .i64 a3])]) (by kernel_rfl) (by decide) ?_
    refine WL.tell (op := .lookup 95 (.tmp 15) (.tmp 19) false) (ty := 3) (d := some 20) (g := none) (by kernel_rfl) (by kernel_rfl) (by kernel_rfl) (Tells.lookup mt95 ko95 Ha0_f1 (i := 2) rfl (a := (⟨a1, a2, a3⟩ : T130)) (z := 0) (by kernel_rfl) (by kernel_rfl) mz95) ?_
    refine WL.restQ 9 [0, 1, 2, 3, 11] (L' := [(0, .pointer (some ⟨b0, 0, none⟩)), (1, .int .i64 a1), (2, .int .i64 a2), (3, .int .i64 a3), (11, .bool (((mget a0.f1 (⟨a1, a2, a3⟩ : T130)).getD 0) == 0))]) (by kernel_rfl) ?_
    refine WP.cond (b := (((mget a0.f1 (⟨a1, a2, a3⟩ : T130)).getD 0) == 0)) (by kernel_rfl) (fun hc => ?_) (fun hc => ?_)
    · replace hc := eq_of_beq hc
      rw [if_pos hc] at h
      have hc1 := hc
      clear hc
      refine WP.seqP [8] (L' := [(8, .int .u64 0)]) (by kernel_rfl) ?_
      refine WP.ret ?_
      refine QP.blockR ?_
      refine QP.thenR ?_
      obtain rfl := Option.some.inj h
      exact QP.returned [8] [.int .u64 0] _ (by kernel_rfl) (by kernel_rfl) (by kernel_rfl) (fun W hI => ⟨_, _, _, rfl, ⟨rfl, rfl, rfl⟩, hI⟩)
    · replace hc := ne_of_beq_false hc
      rw [if_neg hc] at h
      have hc1 := hc
      clear hc
      refine WP.seqP [0, 1, 2, 3, 22] (L' := [(0, .pointer (some ⟨b0, 0, none⟩)), (1, .int .i64 a1), (2, .int .i64 a2), (3, .int .i64 a3), (22, .bool (a2 == 5))]) (by kernel_rfl) ?_
      refine WP.cond (b := (a2 == 5)) (by kernel_rfl) (fun hc => ?_) (fun hc => ?_)
      · replace hc := eq_of_beq hc
        rw [if_pos hc] at h
        have hc2 := hc
        clear hc
        refine WP.seqR ?_
        refine WL.pure 0 3 [1, 3, 27] (L' := [(1, .int .i64 a1), (3, .int .i64 a3), (27, .pointer (some ⟨b0, 0, none⟩))]) (by kernel_rfl) (by decide) ?_
        refine WL.tell (op := .load 94 (.tmp 27)) (ty := 94) (d := some 28) (g := none) (by kernel_rfl) (by kernel_rfl) (by kernel_rfl) (Tells.load_box (i := 0) (b := b0) (o := 0) (agg := false) (by rfl) ag94 (by kernel_rfl) (fun _ => rfl) (Nat.le_of_ble_eq_true rfl) (v := mpv Aa0_f0) (by kernel_rfl)) ?_
        refine WL.pure 4 7 [28, 31] (L' := [(28, mpv Aa0_f0), (31, .agg #[.int .i64 a1, .int .i64 a3])]) (by kernel_rfl) (by decide) ?_
        refine WL.tell (op := .lookup 94 (.tmp 28) (.tmp 31) false) (ty := 103) (d := some 32) (g := none) (by kernel_rfl) (by kernel_rfl) (by kernel_rfl) (Tells.lookup mt94 ko94 Ha0_f0 (i := 1) rfl (a := (⟨a1, a3⟩ : T32)) (z := z103) (by kernel_rfl) (by kernel_rfl) mz94) ?_
        refine WL.restQ 8 [8] (L' := [(8, .int .u64 (((mget a0.f0 (⟨a1, a3⟩ : T32)).getD z103).f5))]) (by kernel_rfl) ?_
        refine WP.ret ?_
        refine QP.blockR ?_
        refine QP.thenR ?_
        obtain rfl := Option.some.inj h
        exact QP.returned [8] [.int .u64 (((mget a0.f0 (⟨a1, a3⟩ : T32)).getD z103).f5)] _ (by kernel_rfl) (by kernel_rfl) (by kernel_rfl) (fun W hI => ⟨_, _, _, rfl, ⟨rfl, rfl, rfl⟩, hI⟩)
      · replace hc := ne_of_beq_false hc
        rw [if_neg hc] at h
        have hc2 := hc
        clear hc
        refine WP.skip ?_
        refine QP.blockN ?_
        refine QP.next ?_
        refine WP.pick [0, 1, 2, 3] ?_
        refine WP.seqP [0, 1, 2, 3, 9] (L' := [(0, .pointer (some ⟨b0, 0, none⟩)), (1, .int .i64 a1), (2, .int .i64 a2), (3, .int .i64 a3), (9, .slice none 0 0)]) (by kernel_rfl) ?_
        refine WP.seq ?_
        refine WP.seqP [0, 1, 2, 3, 9, 34] (L' := [(0, .pointer (some ⟨b0, 0, none⟩)), (1, .int .i64 a1), (2, .int .i64 a2), (3, .int .i64 a3), (9, .slice none 0 0), (34, .int .i64 0)]) (by kernel_rfl) ?_
        rw [Option.bind_eq_some_iff] at h
        obtain ⟨os3, h, hk4⟩ := h
        refine WP.cutQ (fun L' G' Γ' => ∃ s3 : (List Int), s3 = os3 ∧ ∃ (As3 : Option Addr), ∃ (cs3 : Nat), ∃ (Cs3 : Chunk), L' = [(9, .slice As3 s3.length cs3)] ∧ G = G' ∧ Cs3 :: [(b0, .cells #[mpv Aa0_f0, mpv Aa0_f1] 97 (0, 0))] :: Ca0_f0 :: Ca0_f1 :: Γ = Γ' ∧ Ow (kInt .u64) G As3 cs3 s3 Cs3) ?_ ?_
        · clear hk4
          refine WP.block ?_
          refine WP.addNil ?_
          refine WP.pick [0, 1, 2, 3, 9, 34] ?_
          refine WP.loopF (fun kn7 L' G' Γ' => ∃ (y5 : List Int), ∃ (y6 : Int), tree_Tree_sum_l0 a0 a1 a2 a3 (tree_Tree_sum kf) kn7 y5 y6 = some os3 ∧ ∃ (Ay5 : Option Addr), ∃ (cy5 : Nat), ∃ (Cy5 : Chunk), L' = [(0, .pointer (some ⟨b0, 0, none⟩)), (1, .int .i64 a1), (2, .int .i64 a2), (3, .int .i64 a3), (9, .slice Ay5 y5.length cy5), (34, .int .i64 y6)] ∧ G = G' ∧ Cy5 :: [(b0, .cells #[mpv Aa0_f0, mpv Aa0_f1] 97 (0, 0))] :: Ca0_f0 :: Ca0_f1 :: Γ = Γ' ∧ Ow (kInt .u64) G Ay5 cy5 y5 Cy5) ?_ kf ⟨([] : List Int), 0, h, none, 0, [], rfl, rfl, rfl, (Ow.nil (kInt .u64) _)⟩
          clear h
          rintro kn8 _ _ _ ⟨y5, y6, h, Ay5, cy5, Cy5, rfl, rfl, rfl, Hy5⟩
          cases kn8 with
          | zero => exact absurd h (by simp [tree_Tree_sum_l0])
          | succ kn8 =>
            simp only [tree_Tree_sum_l0] at h
            refine WP.seqP [0, 1, 2, 3, 9, 34, 35] (L' := [(0, .pointer (some ⟨b0, 0, none⟩)), (1, .int .i64 a1), (2, .int .i64 a2), (3, .int .i64 a3), (9, .slice Ay5 y5.length cy5), (34, .int .i64 y6), (35, .bool (decide (y6 < 4)))]) (by kernel_rfl) ?_
            refine WP.seq ?_
            refine WP.cond (b := decide (y6 < 4)) (by kernel_rfl) (fun hc => ?_) (fun hc => ?_)
            · replace hc := of_decide_eq_true hc
              rw [if_pos hc] at h
              have hc9 := hc
              clear hc
              refine WP.skip ?_
              refine QP.next ?_
              refine WP.pick [0, 1, 2, 3, 9, 34] ?_
              refine WP.seq ?_
              refine WP.block ?_
              refine WP.seqP [0, 1, 2, 3, 9, 10, 34] (L' := [(0, .pointer (some ⟨b0, 0, none⟩)), (1, .int .i64 a1), (2, .int .i64 a2), (3, .int .i64 a3), (9, .slice Ay5 y5.length cy5), (10, .int .i64 y6), (34, .int .i64 y6)]) (by kernel_rfl) ?_
              refine WP.region ?_
              refine WL.pure 0 9 [0, 1, 2, 3, 9, 34, 37, 38, 39, 41, 45] (L' := [(0, .pointer (some ⟨b0, 0, none⟩)), (1, .int .i64 a1), (2, .int .i64 a2), (3, .int .i64 a3), (9, .slice Ay5 y5.length cy5), (34, .int .i64 y6), (37, .slice Ay5 y5.length cy5), (38, .pointer (some ⟨b0, 0, none⟩)), (39, .int .i64 a1), (41, .int .i64 (IntKind.i64.wrap (a2 + 1))), (45, .int .i64 (IntKind.i64.wrap ((IntKind.i64.wrap (4 * a3)) + y6)))]) (by kernel_rfl) (by decide) ?_
              refine WL.front (i := 3) rfl ?_
              refine WL.front (i := 3) rfl ?_
              refine WL.front (i := 3) rfl ?_
              rw [Option.bind_eq_some_iff] at h
              obtain ⟨t10, ht11, h⟩ := h
              refine WL.op (op := .call { callee := (.value (.func 60)), args := #[(.tmp 38), (.tmp 39), (.tmp 41), (.tmp 45)], argTypes := #[25, 3, 3, 3] }) (ty := 44) (d := some 46) (g := none) (by kernel_rfl) (by kernel_rfl) (by kernel_rfl) (Does.call (f := 60) (args := [.pointer (some ⟨b0, 0, none⟩), .int .i64 a1, .int .i64 (IntKind.i64.wrap (a2 + 1)), .int .i64 (IntKind.i64.wrap ((IntKind.i64.wrap (4 * a3)) + y6))]) (by kernel_rfl) (fun W hI => (ih a0 a1 (IntKind.i64.wrap (a2 + 1)) (IntKind.i64.wrap ((IntKind.i64.wrap (4 * a3)) + y6)) b0 Aa0_f0 ca0_f0 Ca0_f0 Ha0_f0 Aa0_f1 ca0_f1 Ca0_f1 Ha0_f1 t10 ht11 hI))) ?_
              rintro _ _ _ ⟨rfl, rfl, rfl⟩
              refine WL.op (op := .buildSlice 53 1 #[(0, (.tmp 46))]) (ty := 53) (d := some 47) (g := none) (by kernel_rfl) (by kernel_rfl) (by kernel_rfl) (Does.new (o := .cells #[.int .u64 t10] 44 (0, 0)) (v := fun r => .slice (some ⟨r, 0, none⟩) 1 1) (fun r => by kernel_rfl)) ?_
              rintro _ _ _ ⟨b14, rfl, rfl, rfl⟩
              have Ho16 : Ow (kInt .u64) G (some ⟨b14, 0, none⟩) 1 ([t10] : List Int) [(b14, .cells #[.int .u64 t10] 44 (0, 0))] := Ow.lit (kd := (kInt .u64)) (G := G) (b := b14) (T := 44) (xs := ([t10] : List Int)) (cs := [.int .u64 t10]) (.cons (x := t10) (cs := [.int .u64 t10]) (by exact rfl) .nil)
              by_cases hb17 : y5.length + ([t10] : List Int).length ≤ 1073741824
              case neg => rw [if_neg hb17] at h; cases h
              rw [if_pos hb17] at h
              refine WL.op (op := .call { callee := (.builtin .append), args := #[(.tmp 37), (.tmp 47)], argTypes := #[53, 53] }) (ty := 53) (d := some 48) (g := none) (by kernel_rfl) (by kernel_rfl) (by kernel_rfl) (Ow.append (ys := ([t10] : List Int)) (v := .slice (some ⟨b14, 0, none⟩) ([t10] : List Int).length 1) Hy5 (i := 4) rfl (by kernel_rfl) (by kernel_rfl) (Ho16.src (i := 0) rfl) sl53 ze44 nt53 (by decide) hb17) ?_
              rintro _ _ _ ⟨rfl, AN18, cN18, CN18, rfl, HN18, rfl⟩
              refine WL.rest 12 [0, 1, 2, 3, 9, 34] (L' := [(0, .pointer (some ⟨b0, 0, none⟩)), (1, .int .i64 a1), (2, .int .i64 a2), (3, .int .i64 a3), (9, .slice AN18 (y5 ++ ([t10] : List Int)).length cN18), (34, .int .i64 y6)]) (by kernel_rfl) ?_
              refine QP.blockN ?_
              refine QP.next ?_
              refine WP.pick [0, 1, 2, 3, 9, 34] ?_
              refine WP.regionP [0, 1, 2, 3, 9, 34] (L' := [(0, .pointer (some ⟨b0, 0, none⟩)), (1, .int .i64 a1), (2, .int .i64 a2), (3, .int .i64 a3), (9, .slice AN18 (y5 ++ ([t10] : List Int)).length cN18), (34, .int .i64 (IntKind.i64.wrap (y6 + 1)))]) (by kernel_rfl) ?_
              refine QP.dropAt 0 ?_
              refine QP.front (i := 2) rfl ?_
              refine QP.front (i := 2) rfl ?_
              refine QP.front (i := 2) rfl ?_
              refine QP.front (i := 3) rfl ?_
              refine QP.pick [0, 1, 2, 3, 9, 34] ?_
              exact QP.meet ⟨kn8, Nat.lt_succ_self _, (y5 ++ ([t10] : List Int)), (IntKind.i64.wrap (y6 + 1)), h, AN18, cN18, CN18, rfl, rfl, rfl, HN18⟩
            · replace hc := of_decide_eq_false hc
              rw [if_neg hc] at h
              have hc9 := hc
              clear hc
              refine WP.exit ?_
              refine QP.thenE ?_
              refine QP.thenE ?_
              refine QP.blockE ?_
              refine QP.pick [9] ?_
              exact QP.meet ⟨_, Option.some.inj h, Ay5, cy5, Cy5, rfl, rfl, rfl, Hy5⟩
        · rintro _ _ _ ⟨s3, rfl, As3, cs3, Cs3, rfl, rfl, rfl, Hs3⟩
          clear h
          replace h := hk4
          refine QP.next ?_
          refine WP.pick [9] ?_
          refine WP.seqR ?_
          refine WL.pure 0 1 [50] (L' := [(50, .slice As3 s3.length cs3)]) (by kernel_rfl) (by decide) ?_
          rw [Option.bind_eq_some_iff] at h
          obtain ⟨t19, ht20, h⟩ := h
          refine WL.op (op := .call { callee := (.value (.func 63)), args := #[(.tmp 50)], argTypes := #[53] }) (ty := 44) (d := some 51) (g := none) (by kernel_rfl) (by kernel_rfl) (by kernel_rfl) (Does.call (Φ := fun v' G' Γ' => v' = .int .u64 t19 ∧ G = G' ∧ Cs3 :: [(b0, .cells #[mpv Aa0_f0, mpv Aa0_f1] 97 (0, 0))] :: Ca0_f0 :: Ca0_f1 :: Γ = Γ') (f := 63) (args := [.slice As3 s3.length cs3]) (by kernel_rfl) (fun W hI => (Calls.lendN (Φ := fun v' N => v' = .int .u64 t19 ∧ N = []) (H := []) (i := 0) rfl hI (fun _ e l23 nl23 hI => by subst e; exact (((digest_All_calls kf s3 As3 cs3 (Hs3.rdN l23 nl23) t19 ht20 hI)).mono fun _ _ hr => by obtain ⟨_, _, _, rfl, hd, hI⟩ := hr; obtain ⟨rfl, rfl, rfl⟩ := hd; exact ⟨_, _, _, rfl, ⟨[], ⟨rfl, rfl⟩, rfl, rfl⟩, hI⟩))).mono fun _ _ hr => by obtain ⟨_, _, _, rfl, ⟨_, hd, rfl, rfl⟩, hI⟩ := hr; obtain ⟨rfl, rfl⟩ := hd; exact ⟨_, _, _, rfl, ⟨rfl, rfl, rfl⟩, hI⟩)) ?_
          rintro _ _ _ ⟨rfl, rfl, rfl⟩
          refine WL.restQ 2 [8] (L' := [(8, .int .u64 t19)]) (by kernel_rfl) ?_
          refine WP.dropAt 0 ?_
          refine WP.ret ?_
          obtain rfl := Option.some.inj h
          exact QP.returned [8] [.int .u64 t19] _ (by kernel_rfl) (by kernel_rfl) (by kernel_rfl) (fun W hI => ⟨_, _, _, rfl, ⟨rfl, rfl, rfl⟩, hI⟩)
theorem tree_Tree_sum_calls {B : World} {G : GMap} {Γ : List Chunk} {W : World} (k : Nat) (a0 : T97) (a1 : Int) (a2 : Int) (a3 : Int) (b0 : Nat) (Aa0_f0 : Option Addr) (ca0_f0 : Nat) (Ca0_f0 : Chunk) (Ha0_f0 : MpO m94 G Aa0_f0 ca0_f0 a0.f0 Ca0_f0) (Aa0_f1 : Option Addr) (ca0_f1 : Nat) (Ca0_f1 : Chunk) (Ha0_f1 : MpO m95 G Aa0_f1 ca0_f1 a0.f1 Ca0_f1) (r : Int) (h : tree_Tree_sum k a0 a1 a2 a3 = some r) (hI : Inv B G ([(b0, .cells #[mpv Aa0_f0, mpv Aa0_f1] 97 (0, 0))] :: Ca0_f0 :: Ca0_f1 :: Γ) W) :
    Calls Tryd.prog 60 [.pointer (some ⟨b0, 0, none⟩), .int .i64 a1, .int .i64 a2, .int .i64 a3].toArray W (Ret B (fun v G' Γ' => v = .int .u64 r ∧ G = G' ∧ [(b0, .cells #[mpv Aa0_f0, mpv Aa0_f1] 97 (0, 0))] :: Ca0_f0 :: Ca0_f1 :: Γ = Γ')) := tree_Tree_sum_calls_k k a0 a1 a2 a3 b0 Aa0_f0 ca0_f0 Ca0_f0 Ha0_f0 Aa0_f1 ca0_f1 Ca0_f1 Ha0_f1 r h hI

/-! ### (*grapevine/tree.Tree).Sum: function 19 -/
def tree_Tree_Sum (k : Nat) (a0 : T97) (a1 : Int) (a2 : Int) (a3 : Int) : Option (Int × Bool) := ((if a1 < 0 then some true else (if a1 ≥ 8 then some true else (if a2 < 0 then some true else (if a2 > 5 then some true else (if a3 < 0 then some true else ((tree_long k 0).bind fun t8 => ((tree_long k a2).bind fun t12 => (if ¬ t12 = 0 then some (decide (a3 ≥ (IntKind.i64.wrap (Int.tdiv t8 t12)))) else none)))))))).bind fun s1 => (if s1 = true then some (0, false) else ((tree_Tree_sum k a0 a1 a2 a3).bind fun t18 => some (t18, true))))
set_option maxHeartbeats 4000000 in
theorem tree_Tree_Sum_calls {B : World} {G : GMap} {Γ : List Chunk} {W : World} (k : Nat) (a0 : T97) (a1 : Int) (a2 : Int) (a3 : Int) (b0 : Nat) (Aa0_f0 : Option Addr) (ca0_f0 : Nat) (Ca0_f0 : Chunk) (Ha0_f0 : MpO m94 G Aa0_f0 ca0_f0 a0.f0 Ca0_f0) (Aa0_f1 : Option Addr) (ca0_f1 : Nat) (Ca0_f1 : Chunk) (Ha0_f1 : MpO m95 G Aa0_f1 ca0_f1 a0.f1 Ca0_f1) (r : Int × Bool) (h : tree_Tree_Sum k a0 a1 a2 a3 = some r) (hI : Inv B G ([(b0, .cells #[mpv Aa0_f0, mpv Aa0_f1] 97 (0, 0))] :: Ca0_f0 :: Ca0_f1 :: Γ) W) :
    Calls Tryd.prog 19 [.pointer (some ⟨b0, 0, none⟩), .int .i64 a1, .int .i64 a2, .int .i64 a3].toArray W (Ret B (fun v G' Γ' => v = .tuple #[.int .u64 r.1, .bool r.2] ∧ G = G' ∧ [(b0, .cells #[mpv Aa0_f0, mpv Aa0_f1] 97 (0, 0))] :: Ca0_f0 :: Ca0_f1 :: Γ = Γ')) := by
  refine calls_WP (Γ := [(b0, .cells #[mpv Aa0_f0, mpv Aa0_f1] 97 (0, 0))] :: Ca0_f0 :: Ca0_f1 :: Γ) (G := G) (B := B) Tryd.func19 rfl (by kernel_rfl) ?_ hI
  clear hI
  unfold tree_Tree_Sum at h
  refine WP.seqP [0, 1, 2, 3] (L' := [(0, .pointer (some ⟨b0, 0, none⟩)), (1, .int .i64 a1), (2, .int .i64 a2), (3, .int .i64 a3)]) (by kernel_rfl) ?_
  refine WP.seq ?_
  rw [Option.bind_eq_some_iff] at h
  obtain ⟨os1, h, hk2⟩ := h
  refine WP.cut (fun L' G' Γ' => ∃ s1 : Bool, s1 = os1 ∧ L' = [(0, .pointer (some ⟨b0, 0, none⟩)), (1, .int .i64 a1), (2, .int .i64 a2), (3, .int .i64 a3), (39, .bool s1)] ∧ G = G' ∧ [(b0, .cells #[mpv Aa0_f0, mpv Aa0_f1] 97 (0, 0))] :: Ca0_f0 :: Ca0_f1 :: Γ = Γ') ?_ ?_
  · clear hk2
    refine WP.region ?_
    refine WL.pure 0 7 [0, 1, 2, 3, 16] (L' := [(0, .pointer (some ⟨b0, 0, none⟩)), (1, .int .i64 a1), (2, .int .i64 a2), (3, .int .i64 a3), (16, .bool (decide (a1 < 0)))]) (by kernel_rfl) (by decide) ?_
    refine WL.split 16 (b := decide (a1 < 0)) (by kernel_rfl) (fun hc => ?_) (fun hc => ?_)
    · replace hc := of_decide_eq_true hc
      rw [if_pos hc] at h
      have hc3 := hc
      clear hc
      refine WL.rest 7 [0, 1, 2, 3, 39] (L' := [(0, .pointer (some ⟨b0, 0, none⟩)), (1, .int .i64 a1), (2, .int .i64 a2), (3, .int .i64 a3), (39, .bool true)]) (by kernel_rfl) ?_
      refine QP.pick [0, 1, 2, 3, 39] ?_
      exact QP.meet ⟨_, Option.some.inj h, rfl, rfl, rfl⟩
    · replace hc := of_decide_eq_false hc
      rw [if_neg hc] at h
      have hc3 := hc
      clear hc
      refine WL.pure 7 11 [0, 1, 2, 3, 20] (L' := [(0, .pointer (some ⟨b0, 0, none⟩)), (1, .int .i64 a1), (2, .int .i64 a2), (3, .int .i64 a3), (20, .bool (decide (a1 ≥ 8)))]) (by kernel_rfl) (by decide) ?_
      refine WL.split 20 (b := decide (a1 ≥ 8)) (by kernel_rfl) (fun hc => ?_) (fun hc => ?_)
      · replace hc := of_decide_eq_true hc
        rw [if_pos hc] at h
        have hc4 := hc
        clear hc
        refine WL.rest 11 [0, 1, 2, 3, 39] (L' := [(0, .pointer (some ⟨b0, 0, none⟩)), (1, .int .i64 a1), (2, .int .i64 a2), (3, .int .i64 a3), (39, .bool true)]) (by kernel_rfl) ?_
        refine QP.pick [0, 1, 2, 3, 39] ?_
        exact QP.meet ⟨_, Option.some.inj h, rfl, rfl, rfl⟩
      · replace hc := of_decide_eq_false hc
        rw [if_neg hc] at h
        have hc4 := hc
        clear hc
        refine WL.pure 11 15 [0, 1, 2, 3, 24] (L' := [(0, .pointer (some ⟨b0, 0, none⟩)), (1, .int .i64 a1), (2, .int .i64 a2), (3, .int .i64 a3), (24, .bool (decide (a2 < 0)))]) (by kernel_rfl) (by decide) ?_
        refine WL.split 24 (b := decide (a2 < 0)) (by kernel_rfl) (fun hc => ?_) (fun hc => ?_)
        · replace hc := of_decide_eq_true hc
          rw [if_pos hc] at h
          have hc5 := hc
          clear hc
          refine WL.rest 15 [0, 1, 2, 3, 39] (L' := [(0, .pointer (some ⟨b0, 0, none⟩)), (1, .int .i64 a1), (2, .int .i64 a2), (3, .int .i64 a3), (39, .bool true)]) (by kernel_rfl) ?_
          refine QP.pick [0, 1, 2, 3, 39] ?_
          exact QP.meet ⟨_, Option.some.inj h, rfl, rfl, rfl⟩
        · replace hc := of_decide_eq_false hc
          rw [if_neg hc] at h
          have hc5 := hc
          clear hc
          refine WL.pure 15 19 [0, 1, 2, 3, 28] (L' := [(0, .pointer (some ⟨b0, 0, none⟩)), (1, .int .i64 a1), (2, .int .i64 a2), (3, .int .i64 a3), (28, .bool (decide (a2 > 5)))]) (by kernel_rfl) (by decide) ?_
          refine WL.split 28 (b := decide (a2 > 5)) (by kernel_rfl) (fun hc => ?_) (fun hc => ?_)
          · replace hc := of_decide_eq_true hc
            rw [if_pos hc] at h
            have hc6 := hc
            clear hc
            refine WL.rest 19 [0, 1, 2, 3, 39] (L' := [(0, .pointer (some ⟨b0, 0, none⟩)), (1, .int .i64 a1), (2, .int .i64 a2), (3, .int .i64 a3), (39, .bool true)]) (by kernel_rfl) ?_
            refine QP.pick [0, 1, 2, 3, 39] ?_
            exact QP.meet ⟨_, Option.some.inj h, rfl, rfl, rfl⟩
          · replace hc := of_decide_eq_false hc
            rw [if_neg hc] at h
            have hc6 := hc
            clear hc
            refine WL.pure 19 23 [0, 1, 2, 3, 32] (L' := [(0, .pointer (some ⟨b0, 0, none⟩)), (1, .int .i64 a1), (2, .int .i64 a2), (3, .int .i64 a3), (32, .bool (decide (a3 < 0)))]) (by kernel_rfl) (by decide) ?_
            refine WL.split 32 (b := decide (a3 < 0)) (by kernel_rfl) (fun hc => ?_) (fun hc => ?_)
            · replace hc := of_decide_eq_true hc
              rw [if_pos hc] at h
              have hc7 := hc
              clear hc
              refine WL.rest 23 [0, 1, 2, 3, 39] (L' := [(0, .pointer (some ⟨b0, 0, none⟩)), (1, .int .i64 a1), (2, .int .i64 a2), (3, .int .i64 a3), (39, .bool true)]) (by kernel_rfl) ?_
              refine QP.pick [0, 1, 2, 3, 39] ?_
              exact QP.meet ⟨_, Option.some.inj h, rfl, rfl, rfl⟩
            · replace hc := of_decide_eq_false hc
              rw [if_neg hc] at h
              have hc7 := hc
              clear hc
              refine WL.pure 23 24 [0, 1, 2, 3, 32, 33] (L' := [(0, .pointer (some ⟨b0, 0, none⟩)), (1, .int .i64 a1), (2, .int .i64 a2), (3, .int .i64 a3), (32, .bool false), (33, .int .i64 a3)]) (by kernel_rfl) (by decide) ?_
              rw [Option.bind_eq_some_iff] at h
              obtain ⟨t8, ht9, h⟩ := h
              refine WL.op (op := .call { callee := (.value (.func 59)), args := #[(.const (.int .i64 0))], argTypes := #[3] }) (ty := 3) (d := some 34) (g := some (22, false)) (by kernel_rfl) (by kernel_rfl) (by kernel_rfl) (Does.call (f := 59) (args := [.int .i64 0]) (by kernel_rfl) (fun W hI => (tree_long_calls k 0  t8 ht9 hI))) ?_
              rintro _ _ _ ⟨rfl, rfl, rfl⟩
              refine WL.pure 25 26 [0, 1, 2, 3, 32, 33, 34, 35] (L' := [(0, .pointer (some ⟨b0, 0, none⟩)), (1, .int .i64 a1), (2, .int .i64 a2), (3, .int .i64 a3), (32, .bool false), (33, .int .i64 a3), (34, .int .i64 t8), (35, .int .i64 a2)]) (by kernel_rfl) (by decide) ?_
              rw [Option.bind_eq_some_iff] at h
              obtain ⟨t12, ht13, h⟩ := h
              refine WL.op (op := .call { callee := (.value (.func 59)), args := #[(.tmp 35)], argTypes := #[3] }) (ty := 3) (d := some 36) (g := some (22, false)) (by kernel_rfl) (by kernel_rfl) (by kernel_rfl) (Does.call (f := 59) (args := [.int .i64 a2]) (by kernel_rfl) (fun W hI => (tree_long_calls k a2  t12 ht13 hI))) ?_
              rintro _ _ _ ⟨rfl, rfl, rfl⟩
              by_cases hb16 : ¬ t12 = 0
              case neg => rw [if_neg hb16] at h; cases h
              rw [if_pos hb16] at h
              refine WL.tell (op := .binOp .quo 3 (.tmp 34) (.tmp 36) 3) (ty := 3) (d := some 37) (g := some (22, false)) (by kernel_rfl) (by kernel_rfl) (by kernel_rfl) (Tells.quo (k := .i64) (a := t8) (b := t12) (by kernel_rfl) (by kernel_rfl) hb16) ?_
              refine WL.rest 28 [0, 1, 2, 3, 39] (L' := [(0, .pointer (some ⟨b0, 0, none⟩)), (1, .int .i64 a1), (2, .int .i64 a2), (3, .int .i64 a3), (39, .bool (decide (a3 ≥ (IntKind.i64.wrap (Int.tdiv t8 t12)))))]) (by kernel_rfl) ?_
              refine QP.pick [0, 1, 2, 3, 39] ?_
              exact QP.meet ⟨_, Option.some.inj h, rfl, rfl, rfl⟩
  · rintro _ _ _ ⟨s1, rfl, rfl, rfl, rfl⟩
    clear h
    replace h := hk2
    refine WP.cond (b := s1) (by kernel_rfl) (fun hc => ?_) (fun hc => ?_)
    · replace hc := hc
      rw [if_pos hc] at h
      have hc17 := hc
      clear hc
      refine WP.seqP [8, 9] (L' := [(8, .int .u64 0), (9, .bool false)]) (by kernel_rfl) ?_
      refine WP.ret ?_
      refine QP.thenR ?_
      obtain rfl := Option.some.inj h
      exact QP.returned [8, 9] [.int .u64 0, .bool false] _ (by kernel_rfl) (by kernel_rfl) (by kernel_rfl) (fun W hI => ⟨_, _, _, rfl, ⟨rfl, rfl, rfl⟩, hI⟩)
    · replace hc := (Bool.eq_false_iff.1 hc)
      rw [if_neg hc] at h
      have hc17 := hc
      clear hc
      refine WP.skip ?_
      refine QP.next ?_
      refine WP.pick [0, 1, 2, 3] ?_
      refine WP.seqR ?_
      refine WL.pure 0 4 [40, 41, 42, 43] (L' := [(40, .pointer (some ⟨b0, 0, none⟩)), (41, .int .i64 a1), (42, .int .i64 a2), (43, .int .i64 a3)]) (by kernel_rfl) (by decide) ?_
      refine WL.front (i := 2) rfl ?_
      refine WL.front (i := 2) rfl ?_
      refine WL.front (i := 2) rfl ?_
      rw [Option.bind_eq_some_iff] at h
      obtain ⟨t18, ht19, h⟩ := h
      refine WL.op (op := .call { callee := (.value (.func 60)), args := #[(.tmp 40), (.tmp 41), (.tmp 42), (.tmp 43)], argTypes := #[25, 3, 3, 3] }) (ty := 44) (d := some 44) (g := none) (by kernel_rfl) (by kernel_rfl) (by kernel_rfl) (Does.call (f := 60) (args := [.pointer (some ⟨b0, 0, none⟩), .int .i64 a1, .int .i64 a2, .int .i64 a3]) (by kernel_rfl) (fun W hI => (tree_Tree_sum_calls k a0 a1 a2 a3 b0 Aa0_f0 ca0_f0 Ca0_f0 Ha0_f0 Aa0_f1 ca0_f1 Ca0_f1 Ha0_f1 t18 ht19 hI))) ?_
      rintro _ _ _ ⟨rfl, rfl, rfl⟩
      refine WL.restQ 5 [8, 9] (L' := [(8, .int .u64 t18), (9, .bool true)]) (by kernel_rfl) ?_
      refine WP.ret ?_
      obtain rfl := Option.some.inj h
      exact QP.returned [8, 9] [.int .u64 t18, .bool true] _ (by kernel_rfl) (by kernel_rfl) (by kernel_rfl) (fun W hI => ⟨_, _, _, rfl, ⟨rfl, rfl, rfl⟩, hI⟩)

/-! ### (*grapevine/tree.Tree).Root: function 22 -/
def tree_Tree_Root_l0 (a0 : T97) : Nat → (List Int) → Int → Option (List Int)
  | 0, _, _ => none
  | k + 1, y3, y4 => (if y4 < 8 then ((tree_Tree_Sum k a0 y4 0 0).bind fun t8 => (if y3.length + ([t8.1] : List Int).length ≤ 1073741824 then tree_Tree_Root_l0 a0 k (y3 ++ ([t8.1] : List Int)) (IntKind.i64.wrap (y4 + 1)) else none)) else some y3)
def tree_Tree_Root (k : Nat) (a0 : T97) : Option Int := ((tree_Tree_Root_l0 a0 k ([] : List Int) 0).bind fun s1 => ((digest_All k s1).bind fun t17 => some t17))
set_option maxHeartbeats 4000000 in
theorem tree_Tree_Root_calls {B : World} {G : GMap} {Γ : List Chunk} {W : World} (k : Nat) (a0 : T97) (b0 : Nat) (Aa0_f0 : Option Addr) (ca0_f0 : Nat) (Ca0_f0 : Chunk) (Ha0_f0 : MpO m94 G Aa0_f0 ca0_f0 a0.f0 Ca0_f0) (Aa0_f1 : Option Addr) (ca0_f1 : Nat) (Ca0_f1 : Chunk) (Ha0_f1 : MpO m95 G Aa0_f1 ca0_f1 a0.f1 Ca0_f1) (r : Int) (h : tree_Tree_Root k a0 = some r) (hI : Inv B G ([(b0, .cells #[mpv Aa0_f0, mpv Aa0_f1] 97 (0, 0))] :: Ca0_f0 :: Ca0_f1 :: Γ) W) :
    Calls Tryd.prog 22 [.pointer (some ⟨b0, 0, none⟩)].toArray W (Ret B (fun v G' Γ' => v = .int .u64 r ∧ G = G' ∧ [(b0, .cells #[mpv Aa0_f0, mpv Aa0_f1] 97 (0, 0))] :: Ca0_f0 :: Ca0_f1 :: Γ = Γ')) := by
  refine calls_WP (Γ := [(b0, .cells #[mpv Aa0_f0, mpv Aa0_f1] 97 (0, 0))] :: Ca0_f0 :: Ca0_f1 :: Γ) (G := G) (B := B) Tryd.func22 rfl (by kernel_rfl) ?_ hI
  clear hI
  unfold tree_Tree_Root at h
  refine WP.seqP [0] (L' := [(0, .pointer (some ⟨b0, 0, none⟩))]) (by kernel_rfl) ?_
  refine WP.seqP [0, 3] (L' := [(0, .pointer (some ⟨b0, 0, none⟩)), (3, .slice none 0 0)]) (by kernel_rfl) ?_
  refine WP.seq ?_
  refine WP.seqP [0, 3, 7] (L' := [(0, .pointer (some ⟨b0, 0, none⟩)), (3, .slice none 0 0), (7, .int .i64 0)]) (by kernel_rfl) ?_
  rw [Option.bind_eq_some_iff] at h
  obtain ⟨os1, h, hk2⟩ := h
  refine WP.cutQ (fun L' G' Γ' => ∃ s1 : (List Int), s1 = os1 ∧ ∃ (As1 : Option Addr), ∃ (cs1 : Nat), ∃ (Cs1 : Chunk), L' = [(3, .slice As1 s1.length cs1)] ∧ G = G' ∧ Cs1 :: [(b0, .cells #[mpv Aa0_f0, mpv Aa0_f1] 97 (0, 0))] :: Ca0_f0 :: Ca0_f1 :: Γ = Γ' ∧ Ow (kInt .u64) G As1 cs1 s1 Cs1) ?_ ?_
  · clear hk2
    refine WP.block ?_
    refine WP.addNil ?_
    refine WP.pick [0, 3, 7] ?_
    refine WP.loopF (fun kn5 L' G' Γ' => ∃ (y3 : List Int), ∃ (y4 : Int), tree_Tree_Root_l0 a0 kn5 y3 y4 = some os1 ∧ ∃ (Ay3 : Option Addr), ∃ (cy3 : Nat), ∃ (Cy3 : Chunk), L' = [(0, .pointer (some ⟨b0, 0, none⟩)), (3, .slice Ay3 y3.length cy3), (7, .int .i64 y4)] ∧ G = G' ∧ Cy3 :: [(b0, .cells #[mpv Aa0_f0, mpv Aa0_f1] 97 (0, 0))] :: Ca0_f0 :: Ca0_f1 :: Γ = Γ' ∧ Ow (kInt .u64) G Ay3 cy3 y3 Cy3) ?_ k ⟨([] : List Int), 0, h, none, 0, [], rfl, rfl, rfl, (Ow.nil (kInt .u64) _)⟩
    clear h
    rintro kn6 _ _ _ ⟨y3, y4, h, Ay3, cy3, Cy3, rfl, rfl, rfl, Hy3⟩
    cases kn6 with
    | zero => exact absurd h (by simp [tree_Tree_Root_l0])
    | succ kn6 =>
      simp only [tree_Tree_Root_l0] at h
      refine WP.seqP [0, 3, 7, 8] (L' := [(0, .pointer (some ⟨b0, 0, none⟩)), (3, .slice Ay3 y3.length cy3), (7, .int .i64 y4), (8, .bool (decide (y4 < 8)))]) (by kernel_rfl) ?_
      refine WP.seq ?_
      refine WP.cond (b := decide (y4 < 8)) (by kernel_rfl) (fun hc => ?_) (fun hc => ?_)
      · replace hc := of_decide_eq_true hc
        rw [if_pos hc] at h
        have hc7 := hc
        clear hc
        refine WP.skip ?_
        refine QP.next ?_
        refine WP.pick [0, 3, 7] ?_
        refine WP.seq ?_
        refine WP.block ?_
        refine WP.seqP [0, 3, 4, 7] (L' := [(0, .pointer (some ⟨b0, 0, none⟩)), (3, .slice Ay3 y3.length cy3), (4, .int .i64 y4), (7, .int .i64 y4)]) (by kernel_rfl) ?_
        refine WP.seqR ?_
        refine WL.pure 0 2 [0, 3, 7, 11, 12] (L' := [(0, .pointer (some ⟨b0, 0, none⟩)), (3, .slice Ay3 y3.length cy3), (7, .int .i64 y4), (11, .pointer (some ⟨b0, 0, none⟩)), (12, .int .i64 y4)]) (by kernel_rfl) (by decide) ?_
        refine WL.front (i := 3) rfl ?_
        refine WL.front (i := 3) rfl ?_
        refine WL.front (i := 3) rfl ?_
        rw [Option.bind_eq_some_iff] at h
        obtain ⟨t8, ht9, h⟩ := h
        refine WL.op (op := .call { callee := (.value (.func 19)), args := #[(.tmp 11), (.tmp 12), (.const (.int .i64 0)), (.const (.int .i64 0))], argTypes := #[25, 3, 3, 3] }) (ty := 45) (d := some 13) (g := none) (by kernel_rfl) (by kernel_rfl) (by kernel_rfl) (Does.call (f := 19) (args := [.pointer (some ⟨b0, 0, none⟩), .int .i64 y4, .int .i64 0, .int .i64 0]) (by kernel_rfl) (fun W hI => (tree_Tree_Sum_calls kn6 a0 y4 0 0 b0 Aa0_f0 ca0_f0 Ca0_f0 Ha0_f0 Aa0_f1 ca0_f1 Ca0_f1 Ha0_f1 t8 ht9 hI))) ?_
        rintro _ _ _ ⟨rfl, rfl, rfl⟩
        refine WL.restQ 3 [0, 3, 5, 7] (L' := [(0, .pointer (some ⟨b0, 0, none⟩)), (3, .slice Ay3 y3.length cy3), (5, .int .u64 t8.1), (7, .int .i64 y4)]) (by kernel_rfl) ?_
        refine WP.region ?_
        refine WL.pure 0 2 [0, 3, 7, 16, 17] (L' := [(0, .pointer (some ⟨b0, 0, none⟩)), (3, .slice Ay3 y3.length cy3), (7, .int .i64 y4), (16, .slice Ay3 y3.length cy3), (17, .int .u64 t8.1)]) (by kernel_rfl) (by decide) ?_
        refine WL.op (op := .buildSlice 53 1 #[(0, (.tmp 17))]) (ty := 53) (d := some 18) (g := none) (by kernel_rfl) (by kernel_rfl) (by kernel_rfl) (Does.new (o := .cells #[.int .u64 t8.1] 44 (0, 0)) (v := fun r => .slice (some ⟨r, 0, none⟩) 1 1) (fun r => by kernel_rfl)) ?_
        rintro _ _ _ ⟨b12, rfl, rfl, rfl⟩
        have Ho14 : Ow (kInt .u64) G (some ⟨b12, 0, none⟩) 1 ([t8.1] : List Int) [(b12, .cells #[.int .u64 t8.1] 44 (0, 0))] := Ow.lit (kd := (kInt .u64)) (G := G) (b := b12) (T := 44) (xs := ([t8.1] : List Int)) (cs := [.int .u64 t8.1]) (.cons (x := t8.1) (cs := [.int .u64 t8.1]) (by exact rfl) .nil)
        by_cases hb15 : y3.length + ([t8.1] : List Int).length ≤ 1073741824
        case neg => rw [if_neg hb15] at h; cases h
        rw [if_pos hb15] at h
        refine WL.op (op := .call { callee := (.builtin .append), args := #[(.tmp 16), (.tmp 18)], argTypes := #[53, 53] }) (ty := 53) (d := some 19) (g := none) (by kernel_rfl) (by kernel_rfl) (by kernel_rfl) (Ow.append (ys := ([t8.1] : List Int)) (v := .slice (some ⟨b12, 0, none⟩) ([t8.1] : List Int).length 1) Hy3 (i := 4) rfl (by kernel_rfl) (by kernel_rfl) (Ho14.src (i := 0) rfl) sl53 ze44 nt53 (by decide) hb15) ?_
        rintro _ _ _ ⟨rfl, AN16, cN16, CN16, rfl, HN16, rfl⟩
        refine WL.rest 4 [0, 3, 7] (L' := [(0, .pointer (some ⟨b0, 0, none⟩)), (3, .slice AN16 (y3 ++ ([t8.1] : List Int)).length cN16), (7, .int .i64 y4)]) (by kernel_rfl) ?_
        refine QP.blockN ?_
        refine QP.next ?_
        refine WP.pick [0, 3, 7] ?_
        refine WP.regionP [0, 3, 7] (L' := [(0, .pointer (some ⟨b0, 0, none⟩)), (3, .slice AN16 (y3 ++ ([t8.1] : List Int)).length cN16), (7, .int .i64 (IntKind.i64.wrap (y4 + 1)))]) (by kernel_rfl) ?_
        refine QP.dropAt 0 ?_
        refine QP.front (i := 2) rfl ?_
        refine QP.front (i := 2) rfl ?_
        refine QP.front (i := 2) rfl ?_
        refine QP.front (i := 3) rfl ?_
        refine QP.pick [0, 3, 7] ?_
        exact QP.meet ⟨kn6, Nat.lt_succ_self _, (y3 ++ ([t8.1] : List Int)), (IntKind.i64.wrap (y4 + 1)), h, AN16, cN16, CN16, rfl, rfl, rfl, HN16⟩
      · replace hc := of_decide_eq_false hc
        rw [if_neg hc] at h
        have hc7 := hc
        clear hc
        refine WP.exit ?_
        refine QP.thenE ?_
        refine QP.thenE ?_
        refine QP.blockE ?_
        refine QP.pick [3] ?_
        exact QP.meet ⟨_, Option.some.inj h, Ay3, cy3, Cy3, rfl, rfl, rfl, Hy3⟩
  · rintro _ _ _ ⟨s1, rfl, As1, cs1, Cs1, rfl, rfl, rfl, Hs1⟩
    clear h
    replace h := hk2
    refine QP.next ?_
    refine WP.pick [3] ?_
    refine WP.seqR ?_
    refine WL.pure 0 1 [21] (L' := [(21, .slice As1 s1.length cs1)]) (by kernel_rfl) (by decide) ?_
    rw [Option.bind_eq_some_iff] at h
    obtain ⟨t17, ht18, h⟩ := h
    refine WL.op (op := .call { callee := (.value (.func 63)), args := #[(.tmp 21)], argTypes := #[53] }) (ty := 44) (d := some 22) (g := none) (by kernel_rfl) (by kernel_rfl) (by kernel_rfl) (Does.call (Φ := fun v' G' Γ' => v' = .int .u64 t17 ∧ G = G' ∧ Cs1 :: [(b0, .cells #[mpv Aa0_f0, mpv Aa0_f1] 97 (0, 0))] :: Ca0_f0 :: Ca0_f1 :: Γ = Γ') (f := 63) (args := [.slice As1 s1.length cs1]) (by kernel_rfl) (fun W hI => (Calls.lendN (Φ := fun v' N => v' = .int .u64 t17 ∧ N = []) (H := []) (i := 0) rfl hI (fun _ e l21 nl21 hI => by subst e; exact (((digest_All_calls k s1 As1 cs1 (Hs1.rdN l21 nl21) t17 ht18 hI)).mono fun _ _ hr => by obtain ⟨_, _, _, rfl, hd, hI⟩ := hr; obtain ⟨rfl, rfl, rfl⟩ := hd; exact ⟨_, _, _, rfl, ⟨[], ⟨rfl, rfl⟩, rfl, rfl⟩, hI⟩))).mono fun _ _ hr => by obtain ⟨_, _, _, rfl, ⟨_, hd, rfl, rfl⟩, hI⟩ := hr; obtain ⟨rfl, rfl⟩ := hd; exact ⟨_, _, _, rfl, ⟨rfl, rfl, rfl⟩, hI⟩)) ?_
    rintro _ _ _ ⟨rfl, rfl, rfl⟩
    refine WL.restQ 2 [2] (L' := [(2, .int .u64 t17)]) (by kernel_rfl) ?_
    refine WP.dropAt 0 ?_
    refine WP.ret ?_
    obtain rfl := Option.some.inj h
    exact QP.returned [2] [.int .u64 t17] _ (by kernel_rfl) (by kernel_rfl) (by kernel_rfl) (fun W hI => ⟨_, _, _, rfl, ⟨rfl, rfl, rfl⟩, hI⟩)

/-! ### (*grapevine/tree.Tree).Get: function 31 -/
def tree_Tree_Get (a0 : T97) (a1 : T32) : Option (T36 × Bool) := some ((⟨((mget a0.f0 a1).getD z103).f0, ((mget a0.f0 a1).getD z103).f1, ((mget a0.f0 a1).getD z103).f2, ((mget a0.f0 a1).getD z103).f3, ((mget a0.f0 a1).getD z103).f4⟩ : T36), (mget a0.f0 a1).isSome)
set_option maxHeartbeats 4000000 in
theorem tree_Tree_Get_calls {B : World} {G : GMap} {Γ : List Chunk} {W : World} (a0 : T97) (a1 : T32) (b0 : Nat) (Aa0_f0 : Option Addr) (ca0_f0 : Nat) (Ca0_f0 : Chunk) (Ha0_f0 : MpO m94 G Aa0_f0 ca0_f0 a0.f0 Ca0_f0) (Aa0_f1 : Option Addr) (ca0_f1 : Nat) (Ca0_f1 : Chunk) (Ha0_f1 : MpO m95 G Aa0_f1 ca0_f1 a0.f1 Ca0_f1) (r : T36 × Bool) (h : tree_Tree_Get a0 a1 = some r) (hI : Inv B G ([(b0, .cells #[mpv Aa0_f0, mpv Aa0_f1] 97 (0, 0))] :: Ca0_f0 :: Ca0_f1 :: Γ) W) :
    Calls Tryd.prog 31 [.pointer (some ⟨b0, 0, none⟩), .agg #[.int .i64 a1.f0, .int .i64 a1.f1]].toArray W (Ret B (fun v G' Γ' => v = .tuple #[.agg #[.int .i64 r.1.f0, .int .i64 r.1.f1, .int .i64 r.1.f2, .int .i64 r.1.f3, .string r.1.f4], .bool r.2] ∧ G = G' ∧ [(b0, .cells #[mpv Aa0_f0, mpv Aa0_f1] 97 (0, 0))] :: Ca0_f0 :: Ca0_f1 :: Γ = Γ')) := by
  refine calls_WP (Γ := [(b0, .cells #[mpv Aa0_f0, mpv Aa0_f1] 97 (0, 0))] :: Ca0_f0 :: Ca0_f1 :: Γ) (G := G) (B := B) Tryd.func31 rfl (by kernel_rfl) ?_ hI
  clear hI
  unfold tree_Tree_Get at h
  refine WP.seqR ?_
  refine WL.op (op := .box 32 (.tmp 1)) (ty := 0) (d := some 3) (g := none) (by kernel_rfl) (by kernel_rfl) (by kernel_rfl) (Does.new (o := .cells #[.int .i64 a1.f0, .int .i64 a1.f1] 32 (0, 0)) (v := fun r => .pointer (some ⟨r, 0, none⟩)) (fun r => by kernel_rfl)) ?_
  rintro _ _ _ ⟨b1, rfl, rfl, rfl⟩
  refine WL.op (op := .alloc 36) (ty := 0) (d := some 4) (g := none) (by kernel_rfl) (by kernel_rfl) (by kernel_rfl) (Does.new (o := .cells #[.int .i64 0, .int .i64 0, .int .i64 0, .int .i64 0, .string (⟨#[]⟩ : ByteArray)] 36 (0, 0)) (v := fun r => .pointer (some ⟨r, 0, none⟩)) (fun r => by kernel_rfl)) ?_
  rintro _ _ _ ⟨b2, rfl, rfl, rfl⟩
  refine WL.restQ 2 [0, 3, 4] (L' := [(0, .pointer (some ⟨b0, 0, none⟩)), (3, .pointer (some ⟨b1, 0, none⟩)), (4, .pointer (some ⟨b2, 0, none⟩))]) (by kernel_rfl) ?_
  refine WP.seq ?_
  refine WP.seqP [0, 3, 4, 9] (L' := [(0, .pointer (some ⟨b0, 0, none⟩)), (3, .pointer (some ⟨b1, 0, none⟩)), (4, .pointer (some ⟨b2, 0, none⟩)), (9, .bool false)]) (by kernel_rfl) ?_
  refine WP.no (by kernel_rfl) ?_
  refine WP.skip ?_
  refine QP.next ?_
  refine WP.pick [0, 3, 4] ?_
  refine WP.seq ?_
  refine WP.any (N := 12) (S := [⟨some 12, [0], []⟩, ⟨some 13, [12], [0]⟩, ⟨some 14, [13], [1]⟩, ⟨some 15, [14], [2]⟩, ⟨some 16, [3], []⟩, ⟨some 17, [15, 16], [3, 4]⟩, ⟨some 11, [17], [5]⟩, ⟨some 18, [11], [6]⟩, ⟨some 19, [11], [6]⟩, ⟨some 6, [], []⟩, ⟨none, [6, 18], [0, 1, 2, 3, 4, 5, 6, 7, 9]⟩, ⟨some 7, [19], [0, 1, 2, 3, 4, 5, 6, 7, 8, 9, 10]⟩]) (kw := 10) (G0 := G) (Γ0 := [(b2, .cells #[.int .i64 0, .int .i64 0, .int .i64 0, .int .i64 0, .string (⟨#[]⟩ : ByteArray)] 36 (0, 0))] :: [(b1, .cells #[.int .i64 a1.f0, .int .i64 a1.f1] 32 (0, 0))] :: [(b0, .cells #[mpv Aa0_f0, mpv Aa0_f1] 97 (0, 0))] :: Ca0_f0 :: Ca0_f1 :: Γ) mo (by kernel_rfl) (fun hS => ?_)
  refine WA.pure [0, 1, 2] [3, 4, 14] (m := 9) (b' := 7) (L' := [(3, .pointer (some ⟨b1, 0, none⟩)), (4, .pointer (some ⟨b2, 0, none⟩)), (14, .pointer (some ⟨b0, 0, none⟩))]) (by kernel_rfl) (NoPanic.then (NoPanic.body)) Under.refl hS (by kernel_rfl) ?_
  refine WA.tellD [10] (i := 3) (m := 8) (b' := 15) (by kernel_rfl) (NoPanic.then (NoPanic.body)) Under.refl hS (by kernel_rfl) (op := .load 94 (.tmp 14)) (ty := 94) (d := some 15) (g := none) (by kernel_rfl) (by kernel_rfl) (by kernel_rfl) (Tells.load_box (i := 2) (b := b0) (o := 0) (agg := false) (by rfl) ag94 (by kernel_rfl) (fun _ => rfl) (Nat.le_of_ble_eq_true rfl) (v := mpv Aa0_f0) (by kernel_rfl)) ?_
  refine WA.tellD [10] (i := 4) (m := 7) (b' := 31) (by kernel_rfl) (NoPanic.then (NoPanic.body)) Under.refl hS (by kernel_rfl) (op := .load 32 (.tmp 3)) (ty := 32) (d := some 16) (g := none) (by kernel_rfl) (by kernel_rfl) (by kernel_rfl) (Tells.load_box (i := 1) (b := b1) (o := 0) (agg := true) (by rfl) ag32 (by kernel_rfl) (fun h => by cases h) (Nat.le_of_ble_eq_true rfl) (v := .agg #[.int .i64 a1.f0, .int .i64 a1.f1]) (by kernel_rfl)) ?_
  refine WA.tellD [10] (i := 5) (m := 6) (b' := 63) (by kernel_rfl) (NoPanic.then (NoPanic.body)) Under.refl hS (by kernel_rfl) (op := .lookup 94 (.tmp 15) (.tmp 16) true) (ty := 104) (d := some 17) (g := none) (by kernel_rfl) (by kernel_rfl) (by kernel_rfl) (Tells.lookupOk mt94 ko94 Ha0_f0 (i := 3) rfl (a := a1) (z := z103) (by kernel_rfl) (by kernel_rfl) mz94) ?_
  refine WA.pure [6, 7, 8] [4, 18, 19] (m := 3) (b' := 511) (L' := [(4, .pointer (some ⟨b2, 0, none⟩)), (18, .agg #[.int .i64 (((mget a0.f0 a1).getD z103).f0), .int .i64 (((mget a0.f0 a1).getD z103).f1), .int .i64 (((mget a0.f0 a1).getD z103).f2), .int .i64 (((mget a0.f0 a1).getD z103).f3), .string (((mget a0.f0 a1).getD z103).f4), .int .u64 (((mget a0.f0 a1).getD z103).f5)]), (19, .bool ((mget a0.f0 a1).isSome))]) (by kernel_rfl) (NoPanic.then (NoPanic.body)) Under.refl hS (by kernel_rfl) ?_
  refine WA.op (i := 9) (m := 2) (b' := 1023) (by kernel_rfl) hS (by kernel_rfl) (op := .alloc 103) (ty := 0) (d := some 6) (g := none) (by kernel_rfl) (by kernel_rfl) (by kernel_rfl) (Does.new (o := .cells #[.int .i64 0, .int .i64 0, .int .i64 0, .int .i64 0, .string (⟨#[]⟩ : ByteArray), .int .u64 0] 103 (0, 0)) (v := fun r => .pointer (some ⟨r, 0, none⟩)) (fun r => by kernel_rfl)) ?_
  rintro _ _ _ ⟨b3, rfl, rfl, rfl⟩
  refine ⟨_, _, Under.cons Under.refl, Under.refl, ?_⟩
  refine WA.opK (i := 10) (kw' := 12) (m := 1) (b' := 2047) (by kernel_rfl) rfl hS (by kernel_rfl) (op := .store 103 (.tmp 6) (.tmp 18)) (ty := 0) (d := none) (g := none) (by kernel_rfl) (by kernel_rfl) (by kernel_rfl) (Does.store_box (i := 0) (b := b3) (o := 0) (v := .agg #[.int .i64 (((mget a0.f0 a1).getD z103).f0), .int .i64 (((mget a0.f0 a1).getD z103).f1), .int .i64 (((mget a0.f0 a1).getD z103).f2), .int .i64 (((mget a0.f0 a1).getD z103).f3), .string (((mget a0.f0 a1).getD z103).f4), .int .u64 (((mget a0.f0 a1).getD z103).f5)]) (by rfl) sz103 (by kernel_rfl) (by kernel_rfl) (by kernel_rfl) (Free.zero _) (Nat.le_of_ble_eq_true rfl) (cells' := #[.int .i64 (((mget a0.f0 a1).getD z103).f0), .int .i64 (((mget a0.f0 a1).getD z103).f1), .int .i64 (((mget a0.f0 a1).getD z103).f2), .int .i64 (((mget a0.f0 a1).getD z103).f3), .string (((mget a0.f0 a1).getD z103).f4), .int .u64 (((mget a0.f0 a1).getD z103).f5)]) (by kernel_rfl)) ?_
  rintro _ _ _ ⟨rfl, rfl, rfl⟩
  refine ⟨_, _, Under.refl, ?_⟩
  refine WA.pure [11] [4, 6, 7] (m := 0) (b' := 4095) (L' := [(4, .pointer (some ⟨b2, 0, none⟩)), (6, .pointer (some ⟨b3, 0, none⟩)), (7, .bool ((mget a0.f0 a1).isSome))]) (by kernel_rfl) (NoPanic.then (NoPanic.body)) Under.refl hS (by kernel_rfl) ?_
  refine WA.done hS (by kernel_rfl) ?_
  refine QP.pick [4, 6, 7] ?_
  refine QP.next ?_
  refine WP.dropAt 2 ?_
  refine WP.seqR ?_
  refine WL.pure 0 1 [4, 7, 20] (L' := [(4, .pointer (some ⟨b2, 0, none⟩)), (7, .bool ((mget a0.f0 a1).isSome)), (20, .pointer (some ⟨b3, 0, none⟩))]) (by kernel_rfl) (by decide) ?_
  refine WL.tell (op := .load 36 (.tmp 20)) (ty := 36) (d := some 21) (g := none) (by kernel_rfl) (by kernel_rfl) (by kernel_rfl) (Tells.load_box (i := 0) (b := b3) (o := 0) (agg := true) (by rfl) ag36 (by kernel_rfl) (fun h => by cases h) (Nat.le_of_ble_eq_true rfl) (v := .agg #[.int .i64 (((mget a0.f0 a1).getD z103).f0), .int .i64 (((mget a0.f0 a1).getD z103).f1), .int .i64 (((mget a0.f0 a1).getD z103).f2), .int .i64 (((mget a0.f0 a1).getD z103).f3), .string (((mget a0.f0 a1).getD z103).f4)]) (by kernel_rfl)) ?_
  refine WL.pure 2 3 [4, 21, 22] (L' := [(4, .pointer (some ⟨b2, 0, none⟩)), (21, .agg #[.int .i64 (((mget a0.f0 a1).getD z103).f0), .int .i64 (((mget a0.f0 a1).getD z103).f1), .int .i64 (((mget a0.f0 a1).getD z103).f2), .int .i64 (((mget a0.f0 a1).getD z103).f3), .string (((mget a0.f0 a1).getD z103).f4)]), (22, .bool ((mget a0.f0 a1).isSome))]) (by kernel_rfl) (by decide) ?_
  refine WL.op (op := .store 36 (.tmp 4) (.tmp 21)) (ty := 0) (d := none) (g := none) (by kernel_rfl) (by kernel_rfl) (by kernel_rfl) (Does.store_box (i := 1) (b := b2) (o := 0) (v := .agg #[.int .i64 (((mget a0.f0 a1).getD z103).f0), .int .i64 (((mget a0.f0 a1).getD z103).f1), .int .i64 (((mget a0.f0 a1).getD z103).f2), .int .i64 (((mget a0.f0 a1).getD z103).f3), .string (((mget a0.f0 a1).getD z103).f4)]) (by rfl) sz36 (by kernel_rfl) (by kernel_rfl) (by kernel_rfl) (Free.zero _) (Nat.le_of_ble_eq_true rfl) (cells' := #[.int .i64 (((mget a0.f0 a1).getD z103).f0), .int .i64 (((mget a0.f0 a1).getD z103).f1), .int .i64 (((mget a0.f0 a1).getD z103).f2), .int .i64 (((mget a0.f0 a1).getD z103).f3), .string (((mget a0.f0 a1).getD z103).f4)]) (by kernel_rfl)) ?_
  rintro _ _ _ ⟨rfl, rfl, rfl⟩
  refine WL.restQ 4 [4, 5] (L' := [(4, .pointer (some ⟨b2, 0, none⟩)), (5, .bool ((mget a0.f0 a1).isSome))]) (by kernel_rfl) ?_
  refine WP.dropAt 0 ?_
  refine WP.ret ?_
  obtain rfl := Option.some.inj h
  refine QP.front (i := 3) rfl ?_
  refine QP.front (i := 3) rfl ?_
  refine QP.front (i := 3) rfl ?_
  exact QP.returnedM (rs := [.cell 4 36, .tmp 5]) (by kernel_rfl) (ResAll.cons (Res1.box (p := 4) (i := 3) (o := 0) (agg := true) (by rfl) ag36 (by kernel_rfl) (fun h => by cases h) (Nat.le_of_ble_eq_true rfl) (v := .agg #[.int .i64 (((mget a0.f0 a1).getD z103).f0), .int .i64 (((mget a0.f0 a1).getD z103).f1), .int .i64 (((mget a0.f0 a1).getD z103).f2), .int .i64 (((mget a0.f0 a1).getD z103).f3), .string (((mget a0.f0 a1).getD z103).f4)]) (by kernel_rfl)) (ResAll.cons (Res1.tmp (t := 5) (v := .bool ((mget a0.f0 a1).isSome)) (by kernel_rfl)) ResAll.nil)) (by kernel_rfl) (fun W hI => ⟨_, _, _, rfl, ⟨rfl, rfl, rfl⟩, (hI.less 3 rfl)⟩)

/-! ### (*grapevine/tree.Tree).Drop: function 15 -/
def tree_Tree_Drop_l0 (l1 : List T32) : Nat → Int → Int → T97 → Option (Int × T97)
  | 0, _, _, _ => none
  | k + 1, y3, y4, y5 => (if y4 < (l1.length : Int) then (if 0 ≤ y4 ∧ y4 < (l1.length : Int) then ((tree_Tree_Get y5 (⟨(l1.getD y4.toNat z32).f0, (l1.getD y4.toNat z32).f1⟩ : T32)).bind fun t11 => (if t11.2 = true then ((tree_Tree_count k (⟨(mdel y5.f0 (⟨(l1.getD y4.toNat z32).f0, (l1.getD y4.toNat z32).f1⟩ : T32)), y5.f1⟩ : T97) (⟨(l1.getD y4.toNat z32).f0, (l1.getD y4.toNat z32).f1⟩ : T32) (-1)).bind fun t18 => tree_Tree_Drop_l0 l1 k (IntKind.i64.wrap (y3 + 1)) (IntKind.i64.wrap (y4 + 1)) t18) else tree_Tree_Drop_l0 l1 k y3 (IntKind.i64.wrap (y4 + 1)) y5)) else none) else some (y3, y5))
def tree_Tree_Drop (k : Nat) (a0 : T97) (l1 : List T32) : Option (Int × T97) := ((tree_Tree_Drop_l0 l1 k 0 0 a0).bind fun s1 => some (s1.1, s1.2))
set_option maxHeartbeats 4000000 in
theorem tree_Tree_Drop_calls {B : World} {G : GMap} {Γ : List Chunk} {W : World} (k : Nat) (a0 : T97) (l1 : List T32) (b0 : Nat) (Aa0_f0 : Option Addr) (ca0_f0 : Nat) (Ca0_f0 : Chunk) (Ha0_f0 : MpO m94 G Aa0_f0 ca0_f0 a0.f0 Ca0_f0) (Aa0_f1 : Option Addr) (ca0_f1 : Nat) (Ca0_f1 : Chunk) (Ha0_f1 : MpO m95 G Aa0_f1 ca0_f1 a0.f1 Ca0_f1) (Al1 : Option Addr) (cl1 : Nat) (Hl1 : Rd k32 G Al1 cl1 l1) (r : Int × T97) (h : tree_Tree_Drop k a0 l1 = some r) (hI : Inv B G ([(b0, .cells #[mpv Aa0_f0, mpv Aa0_f1] 97 (0, 0))] :: Ca0_f0 :: Ca0_f1 :: Γ) W) :
    Calls Tryd.prog 15 [.pointer (some ⟨b0, 0, none⟩), .slice Al1 l1.length cl1].toArray W (Ret B (fun v G' Γ' => ∃ (ARp0_0 : Option Addr), ∃ (cRp0_0 : Nat), ∃ (CRp0_0 : Chunk), ∃ (ARp0_1 : Option Addr), ∃ (cRp0_1 : Nat), ∃ (CRp0_1 : Chunk), v = .int .i64 r.1 ∧ MpO m94 G' ARp0_0 cRp0_0 r.2.f0 CRp0_0 ∧ MpO m95 G' ARp0_1 cRp0_1 r.2.f1 CRp0_1 ∧ G = G' ∧ [(b0, .cells #[mpv ARp0_0, mpv ARp0_1] 97 (0, 0))] :: CRp0_0 :: CRp0_1 :: Γ = Γ')) := by
  refine calls_WP (Γ := [(b0, .cells #[mpv Aa0_f0, mpv Aa0_f1] 97 (0, 0))] :: Ca0_f0 :: Ca0_f1 :: Γ) (G := G) (B := B) Tryd.func15 rfl (by kernel_rfl) ?_ hI
  clear hI
  unfold tree_Tree_Drop at h
  refine WP.seqP [0, 1] (L' := [(0, .pointer (some ⟨b0, 0, none⟩)), (1, .slice Al1 l1.length cl1)]) (by kernel_rfl) ?_
  refine WP.seqP [0, 1, 5] (L' := [(0, .pointer (some ⟨b0, 0, none⟩)), (1, .slice Al1 l1.length cl1), (5, .int .i64 0)]) (by kernel_rfl) ?_
  refine WP.seq ?_
  refine WP.seqP [0, 5, 10, 11, 12] (L' := [(0, .pointer (some ⟨b0, 0, none⟩)), (5, .int .i64 0), (10, .slice Al1 l1.length cl1), (11, .int .i64 (l1.length : Int)), (12, .int .i64 0)]) (by kernel_rfl) ?_
  rw [Option.bind_eq_some_iff] at h
  obtain ⟨os1, h, hk2⟩ := h
  refine WP.cutQ (fun L' G' Γ' => ∃ s1 : Int × T97, s1 = os1 ∧ ∃ (As1_2_f0 : Option Addr), ∃ (cs1_2_f0 : Nat), ∃ (Cs1_2_f0 : Chunk), ∃ (As1_2_f1 : Option Addr), ∃ (cs1_2_f1 : Nat), ∃ (Cs1_2_f1 : Chunk), L' = [(5, .int .i64 s1.1)] ∧ G = G' ∧ [(b0, .cells #[mpv As1_2_f0, mpv As1_2_f1] 97 (0, 0))] :: Cs1_2_f0 :: Cs1_2_f1 :: Γ = Γ' ∧ MpO m94 G As1_2_f0 cs1_2_f0 s1.2.f0 Cs1_2_f0 ∧ MpO m95 G As1_2_f1 cs1_2_f1 s1.2.f1 Cs1_2_f1) ?_ ?_
  · clear hk2
    refine WP.block ?_
    refine WP.pick [0, 5, 10, 11, 12] ?_
    refine WP.loopF (fun kn6 L' G' Γ' => ∃ (y3 : Int), ∃ (y4 : Int), ∃ (y5 : T97), tree_Tree_Drop_l0 l1 kn6 y3 y4 y5 = some os1 ∧ ∃ (Ay5_f0 : Option Addr), ∃ (cy5_f0 : Nat), ∃ (Cy5_f0 : Chunk), ∃ (Ay5_f1 : Option Addr), ∃ (cy5_f1 : Nat), ∃ (Cy5_f1 : Chunk), L' = [(0, .pointer (some ⟨b0, 0, none⟩)), (5, .int .i64 y3), (10, .slice Al1 l1.length cl1), (11, .int .i64 (l1.length : Int)), (12, .int .i64 y4)] ∧ G = G' ∧ [(b0, .cells #[mpv Ay5_f0, mpv Ay5_f1] 97 (0, 0))] :: Cy5_f0 :: Cy5_f1 :: Γ = Γ' ∧ MpO m94 G Ay5_f0 cy5_f0 y5.f0 Cy5_f0 ∧ MpO m95 G Ay5_f1 cy5_f1 y5.f1 Cy5_f1) ?_ k ⟨0, 0, a0, h, Aa0_f0, ca0_f0, Ca0_f0, Aa0_f1, ca0_f1, Ca0_f1, rfl, rfl, rfl, Ha0_f0, Ha0_f1⟩
    clear h
    rintro kn7 _ _ _ ⟨y3, y4, y5, h, Ay5_f0, cy5_f0, Cy5_f0, Ay5_f1, cy5_f1, Cy5_f1, rfl, rfl, rfl, Hy5_f0, Hy5_f1⟩
    cases kn7 with
    | zero => exact absurd h (by simp [tree_Tree_Drop_l0])
    | succ kn7 =>
      simp only [tree_Tree_Drop_l0] at h
      refine WP.seqP [0, 5, 10, 11, 12, 13] (L' := [(0, .pointer (some ⟨b0, 0, none⟩)), (5, .int .i64 y3), (10, .slice Al1 l1.length cl1), (11, .int .i64 (l1.length : Int)), (12, .int .i64 y4), (13, .bool (decide (y4 < (l1.length : Int))))]) (by kernel_rfl) ?_
      refine WP.seq ?_
      refine WP.cond (b := decide (y4 < (l1.length : Int))) (by kernel_rfl) (fun hc => ?_) (fun hc => ?_)
      · replace hc := of_decide_eq_true hc
        rw [if_pos hc] at h
        have hc8 := hc
        clear hc
        refine WP.skip ?_
        refine QP.next ?_
        refine WP.pick [0, 5, 10, 11, 12] ?_
        refine WP.seq ?_
        refine WP.block ?_
        refine WP.seqR ?_
        by_cases hb9 : 0 ≤ y4 ∧ y4 < (l1.length : Int)
        case neg => rw [if_neg hb9] at h; cases h
        rw [if_pos hb9] at h
        refine WL.tell (op := .indexAddr 41 (.tmp 10) (.tmp 12)) (ty := 0) (d := some 14) (g := none) (by kernel_rfl) (by kernel_rfl) (by kernel_rfl) (Tells.indexAddr (A := Al1) (n := l1.length) (c := cl1) (k := .i64) (j := y4) (by kernel_rfl) (by kernel_rfl) (Hl1.isSome hb9.1 hb9.2) hb9.1 hb9.2 sl41) ?_
        refine WL.tellE (op := .load 32 (.tmp 14)) (ty := 32) (d := some 15) (g := none) (by kernel_rfl) (by kernel_rfl) (by kernel_rfl) (Hl1.load (agg := true) hb9.1 hb9.2 z32 ag32 (fun h => by cases h) (by kernel_rfl)) ?_
        rintro _ rfl
        refine WL.op (op := .alloc 32) (ty := 0) (d := some 7) (g := none) (by kernel_rfl) (by kernel_rfl) (by kernel_rfl) (Does.new (o := .cells #[.int .i64 0, .int .i64 0] 32 (0, 0)) (v := fun r => .pointer (some ⟨r, 0, none⟩)) (fun r => by kernel_rfl)) ?_
        rintro _ _ _ ⟨b10, rfl, rfl, rfl⟩
        refine WL.op (op := .store 32 (.tmp 7) (.tmp 15)) (ty := 0) (d := none) (g := none) (by kernel_rfl) (by kernel_rfl) (by kernel_rfl) (Does.store_box (i := 0) (b := b10) (o := 0) (v := .agg #[.int .i64 ((l1.getD y4.toNat z32).f0), .int .i64 ((l1.getD y4.toNat z32).f1)]) (by rfl) sz32 (by kernel_rfl) (by kernel_rfl) (by kernel_rfl) (Free.zero _) (Nat.le_of_ble_eq_true rfl) (cells' := #[.int .i64 ((l1.getD y4.toNat z32).f0), .int .i64 ((l1.getD y4.toNat z32).f1)]) (by kernel_rfl)) ?_
        rintro _ _ _ ⟨rfl, rfl, rfl⟩
        refine WL.restQ 4 [0, 5, 7, 10, 11, 12] (L' := [(0, .pointer (some ⟨b0, 0, none⟩)), (5, .int .i64 y3), (7, .pointer (some ⟨b10, 0, none⟩)), (10, .slice Al1 l1.length cl1), (11, .int .i64 (l1.length : Int)), (12, .int .i64 y4)]) (by kernel_rfl) ?_
        refine WP.seqR ?_
        refine WL.pure 0 1 [0, 5, 7, 10, 11, 12, 17] (L' := [(0, .pointer (some ⟨b0, 0, none⟩)), (5, .int .i64 y3), (7, .pointer (some ⟨b10, 0, none⟩)), (10, .slice Al1 l1.length cl1), (11, .int .i64 (l1.length : Int)), (12, .int .i64 y4), (17, .pointer (some ⟨b0, 0, none⟩))]) (by kernel_rfl) (by decide) ?_
        refine WL.tell (op := .load 32 (.tmp 7)) (ty := 32) (d := some 18) (g := none) (by kernel_rfl) (by kernel_rfl) (by kernel_rfl) (Tells.load_box (i := 0) (b := b10) (o := 0) (agg := true) (by rfl) ag32 (by kernel_rfl) (fun h => by cases h) (Nat.le_of_ble_eq_true rfl) (v := .agg #[.int .i64 ((l1.getD y4.toNat z32).f0), .int .i64 ((l1.getD y4.toNat z32).f1)]) (by kernel_rfl)) ?_
        refine WL.front (i := 3) rfl ?_
        refine WL.front (i := 3) rfl ?_
        refine WL.front (i := 3) rfl ?_
        rw [Option.bind_eq_some_iff] at h
        obtain ⟨t11, ht12, h⟩ := h
        refine WL.op (op := .call { callee := (.value (.func 31)), args := #[(.tmp 17), (.tmp 18)], argTypes := #[25, 32] }) (ty := 59) (d := some 19) (g := none) (by kernel_rfl) (by kernel_rfl) (by kernel_rfl) (Does.call (f := 31) (args := [.pointer (some ⟨b0, 0, none⟩), .agg #[.int .i64 ((l1.getD y4.toNat z32).f0), .int .i64 ((l1.getD y4.toNat z32).f1)]]) (by kernel_rfl) (fun W hI => (tree_Tree_Get_calls y5 (⟨(l1.getD y4.toNat z32).f0, (l1.getD y4.toNat z32).f1⟩ : T32) b0 Ay5_f0 cy5_f0 Cy5_f0 Hy5_f0 Ay5_f1 cy5_f1 Cy5_f1 Hy5_f1 t11 ht12 hI))) ?_
        rintro _ _ _ ⟨rfl, rfl, rfl⟩
        refine WL.pure 3 6 [0, 5, 7, 10, 11, 12, 20, 21] (L' := [(0, .pointer (some ⟨b0, 0, none⟩)), (5, .int .i64 y3), (7, .pointer (some ⟨b10, 0, none⟩)), (10, .slice Al1 l1.length cl1), (11, .int .i64 (l1.length : Int)), (12, .int .i64 y4), (20, .agg #[.int .i64 t11.1.f0, .int .i64 t11.1.f1, .int .i64 t11.1.f2, .int .i64 t11.1.f3, .string t11.1.f4]), (21, .bool t11.2)]) (by kernel_rfl) (by decide) ?_
        refine WL.op (op := .alloc 36) (ty := 0) (d := some 8) (g := none) (by kernel_rfl) (by kernel_rfl) (by kernel_rfl) (Does.new (o := .cells #[.int .i64 0, .int .i64 0, .int .i64 0, .int .i64 0, .string (⟨#[]⟩ : ByteArray)] 36 (0, 0)) (v := fun r => .pointer (some ⟨r, 0, none⟩)) (fun r => by kernel_rfl)) ?_
        rintro _ _ _ ⟨b15, rfl, rfl, rfl⟩
        refine WL.op (op := .store 36 (.tmp 8) (.tmp 20)) (ty := 0) (d := none) (g := none) (by kernel_rfl) (by kernel_rfl) (by kernel_rfl) (Does.store_box (i := 0) (b := b15) (o := 0) (v := .agg #[.int .i64 t11.1.f0, .int .i64 t11.1.f1, .int .i64 t11.1.f2, .int .i64 t11.1.f3, .string t11.1.f4]) (by rfl) sz36 (by kernel_rfl) (by kernel_rfl) (by kernel_rfl) (Free.zero _) (Nat.le_of_ble_eq_true rfl) (cells' := #[.int .i64 t11.1.f0, .int .i64 t11.1.f1, .int .i64 t11.1.f2, .int .i64 t11.1.f3, .string t11.1.f4]) (by kernel_rfl)) ?_
        rintro _ _ _ ⟨rfl, rfl, rfl⟩
        refine WL.restQ 8 [0, 5, 7, 9, 10, 11, 12] (L' := [(0, .pointer (some ⟨b0, 0, none⟩)), (5, .int .i64 y3), (7, .pointer (some ⟨b10, 0, none⟩)), (9, .bool t11.2), (10, .slice Al1 l1.length cl1), (11, .int .i64 (l1.length : Int)), (12, .int .i64 y4)]) (by kernel_rfl) ?_
        refine WP.dropAt 0 ?_
        refine WP.seqP [0, 5, 7, 10, 11, 12, 22] (L' := [(0, .pointer (some ⟨b0, 0, none⟩)), (5, .int .i64 y3), (7, .pointer (some ⟨b10, 0, none⟩)), (10, .slice Al1 l1.length cl1), (11, .int .i64 (l1.length : Int)), (12, .int .i64 y4), (22, .bool t11.2)]) (by kernel_rfl) ?_
        refine WP.cond (b := t11.2) (by kernel_rfl) (fun hc => ?_) (fun hc => ?_)
        · replace hc := hc
          rw [if_pos hc] at h
          have hc16 := hc
          clear hc
          refine WP.seq ?_
          refine WP.any (N := 6) (S := [⟨some 23, [0], []⟩, ⟨some 24, [23], [0]⟩, ⟨some 25, [24], [1]⟩, ⟨some 26, [25], [2]⟩, ⟨some 27, [7], []⟩, ⟨none, [26, 27], [3, 4]⟩]) (kw := 5) (G0 := G) (Γ0 := [(b0, .cells #[mpv Ay5_f0, mpv Ay5_f1] 97 (0, 0))] :: Cy5_f0 :: Cy5_f1 :: [(b10, .cells #[.int .i64 ((l1.getD y4.toNat z32).f0), .int .i64 ((l1.getD y4.toNat z32).f1)] 32 (0, 0))] :: Γ) mo (by kernel_rfl) (fun hS => ?_)
          refine WA.pure [0, 1, 2] [0, 5, 7, 10, 11, 12, 25] (m := 3) (b' := 7) (L' := [(0, .pointer (some ⟨b0, 0, none⟩)), (5, .int .i64 y3), (7, .pointer (some ⟨b10, 0, none⟩)), (10, .slice Al1 l1.length cl1), (11, .int .i64 (l1.length : Int)), (12, .int .i64 y4), (25, .pointer (some ⟨b0, 0, none⟩))]) (by kernel_rfl) (NoPanic.then (NoPanic.block (NoPanic.then (NoPanic.then (NoPanic.block (NoPanic.then (NoPanic.then (NoPanic.body)))))))) Under.refl hS (by kernel_rfl) ?_
          refine WA.tellD [5] (i := 3) (m := 2) (b' := 15) (by kernel_rfl) (NoPanic.then (NoPanic.block (NoPanic.then (NoPanic.then (NoPanic.block (NoPanic.then (NoPanic.then (NoPanic.body)))))))) Under.refl hS (by kernel_rfl) (op := .load 94 (.tmp 25)) (ty := 94) (d := some 26) (g := none) (by kernel_rfl) (by kernel_rfl) (by kernel_rfl) (Tells.load_box (i := 0) (b := b0) (o := 0) (agg := false) (by rfl) ag94 (by kernel_rfl) (fun _ => rfl) (Nat.le_of_ble_eq_true rfl) (v := mpv Ay5_f0) (by kernel_rfl)) ?_
          refine WA.tellD [5] (i := 4) (m := 1) (b' := 31) (by kernel_rfl) (NoPanic.then (NoPanic.block (NoPanic.then (NoPanic.then (NoPanic.block (NoPanic.then (NoPanic.then (NoPanic.body)))))))) Under.refl hS (by kernel_rfl) (op := .load 32 (.tmp 7)) (ty := 32) (d := some 27) (g := none) (by kernel_rfl) (by kernel_rfl) (by kernel_rfl) (Tells.load_box (i := 3) (b := b10) (o := 0) (agg := true) (by rfl) ag32 (by kernel_rfl) (fun h => by cases h) (Nat.le_of_ble_eq_true rfl) (v := .agg #[.int .i64 ((l1.getD y4.toNat z32).f0), .int .i64 ((l1.getD y4.toNat z32).f1)]) (by kernel_rfl)) ?_
          refine WA.opK (i := 5) (kw' := 6) (m := 0) (b' := 63) (by kernel_rfl) rfl hS (by kernel_rfl) (op := .call { callee := (.builtin .delete), args := #[(.tmp 26), (.tmp 27)], argTypes := #[94, 32] }) (ty := 0) (d := none) (g := none) (by kernel_rfl) (by kernel_rfl) (by kernel_rfl) (Does.mapDel mt94 ko94 Hy5_f0 (i := 1) rfl (a := (⟨(l1.getD y4.toNat z32).f0, (l1.getD y4.toNat z32).f1⟩ : T32)) (by kernel_rfl) (by kernel_rfl)) ?_
          rintro _ _ _ ⟨rfl, rfl, CN17, HN17, rfl⟩
          refine ⟨_, _, Under.refl, ?_⟩
          refine WA.done hS (by kernel_rfl) ?_
          refine QP.pick [0, 5, 7, 10, 11, 12] ?_
          refine QP.next ?_
          refine WP.seqR ?_
          refine WL.pure 0 1 [0, 5, 7, 10, 11, 12, 28] (L' := [(0, .pointer (some ⟨b0, 0, none⟩)), (5, .int .i64 y3), (7, .pointer (some ⟨b10, 0, none⟩)), (10, .slice Al1 l1.length cl1), (11, .int .i64 (l1.length : Int)), (12, .int .i64 y4), (28, .pointer (some ⟨b0, 0, none⟩))]) (by kernel_rfl) (by decide) ?_
          refine WL.tell (op := .load 32 (.tmp 7)) (ty := 32) (d := some 29) (g := none) (by kernel_rfl) (by kernel_rfl) (by kernel_rfl) (Tells.load_box (i := 3) (b := b10) (o := 0) (agg := true) (by rfl) ag32 (by kernel_rfl) (fun h => by cases h) (Nat.le_of_ble_eq_true rfl) (v := .agg #[.int .i64 ((l1.getD y4.toNat z32).f0), .int .i64 ((l1.getD y4.toNat z32).f1)]) (by kernel_rfl)) ?_
          refine WL.front (i := 2) rfl ?_
          refine WL.front (i := 2) rfl ?_
          refine WL.front (i := 2) rfl ?_
          rw [Option.bind_eq_some_iff] at h
          obtain ⟨t18, ht19, h⟩ := h
          refine WL.op (op := .call { callee := (.value (.func 54)), args := #[(.tmp 28), (.tmp 29), (.const (.int .i64 (-1)))], argTypes := #[25, 32, 3] }) (ty := 0) (d := some 30) (g := none) (by kernel_rfl) (by kernel_rfl) (by kernel_rfl) (Does.call (f := 54) (args := [.pointer (some ⟨b0, 0, none⟩), .agg #[.int .i64 ((l1.getD y4.toNat z32).f0), .int .i64 ((l1.getD y4.toNat z32).f1)], .int .i64 (-1)]) (by kernel_rfl) (fun W hI => (tree_Tree_count_calls kn7 (⟨(mdel y5.f0 (⟨(l1.getD y4.toNat z32).f0, (l1.getD y4.toNat z32).f1⟩ : T32)), y5.f1⟩ : T97) (⟨(l1.getD y4.toNat z32).f0, (l1.getD y4.toNat z32).f1⟩ : T32) (-1) b0 Ay5_f0 cy5_f0 CN17 HN17 Ay5_f1 cy5_f1 Cy5_f1 Hy5_f1 t18 ht19 hI))) ?_
          rintro _ _ _ ⟨AR20p0_0, cR20p0_0, CR20p0_0, AR20p0_1, cR20p0_1, CR20p0_1, rfl, HR20p0_0, HR20p0_1, rfl, rfl⟩
          refine WL.restQ 3 [0, 5, 10, 11, 12] (L' := [(0, .pointer (some ⟨b0, 0, none⟩)), (5, .int .i64 y3), (10, .slice Al1 l1.length cl1), (11, .int .i64 (l1.length : Int)), (12, .int .i64 y4)]) (by kernel_rfl) ?_
          refine WP.dropAt 3 ?_
          refine WP.regionP [0, 5, 10, 11, 12] (L' := [(0, .pointer (some ⟨b0, 0, none⟩)), (5, .int .i64 (IntKind.i64.wrap (y3 + 1))), (10, .slice Al1 l1.length cl1), (11, .int .i64 (l1.length : Int)), (12, .int .i64 y4)]) (by kernel_rfl) ?_
          refine QP.blockN ?_
          refine QP.next ?_
          refine WP.pick [0, 5, 10, 11, 12] ?_
          refine WP.regionP [0, 5, 10, 11, 12] (L' := [(0, .pointer (some ⟨b0, 0, none⟩)), (5, .int .i64 (IntKind.i64.wrap (y3 + 1))), (10, .slice Al1 l1.length cl1), (11, .int .i64 (l1.length : Int)), (12, .int .i64 (IntKind.i64.wrap (y4 + 1)))]) (by kernel_rfl) ?_
          refine QP.front (i := 2) rfl ?_
          refine QP.front (i := 2) rfl ?_
          refine QP.front (i := 2) rfl ?_
          refine QP.pick [0, 5, 10, 11, 12] ?_
          exact QP.meet ⟨kn7, Nat.lt_succ_self _, (IntKind.i64.wrap (y3 + 1)), (IntKind.i64.wrap (y4 + 1)), t18, h, AR20p0_0, cR20p0_0, CR20p0_0, AR20p0_1, cR20p0_1, CR20p0_1, rfl, rfl, rfl, HR20p0_0, HR20p0_1⟩
        · replace hc := (Bool.eq_false_iff.1 hc)
          rw [if_neg hc] at h
          have hc16 := hc
          clear hc
          refine WP.skip ?_
          refine QP.blockN ?_
          refine QP.next ?_
          refine WP.pick [0, 5, 10, 11, 12] ?_
          refine WP.regionP [0, 5, 10, 11, 12] (L' := [(0, .pointer (some ⟨b0, 0, none⟩)), (5, .int .i64 y3), (10, .slice Al1 l1.length cl1), (11, .int .i64 (l1.length : Int)), (12, .int .i64 (IntKind.i64.wrap (y4 + 1)))]) (by kernel_rfl) ?_
          refine QP.dropAt 3 ?_
          refine QP.front (i := 2) rfl ?_
          refine QP.front (i := 2) rfl ?_
          refine QP.front (i := 2) rfl ?_
          refine QP.pick [0, 5, 10, 11, 12] ?_
          exact QP.meet ⟨kn7, Nat.lt_succ_self _, y3, (IntKind.i64.wrap (y4 + 1)), y5, h, Ay5_f0, cy5_f0, Cy5_f0, Ay5_f1, cy5_f1, Cy5_f1, rfl, rfl, rfl, Hy5_f0, Hy5_f1⟩
      · replace hc := of_decide_eq_false hc
        rw [if_neg hc] at h
        have hc8 := hc
        clear hc
        refine WP.exit ?_
        refine QP.thenE ?_
        refine QP.thenE ?_
        refine QP.blockE ?_
        refine QP.pick [5] ?_
        exact QP.meet ⟨_, Option.some.inj h, Ay5_f0, cy5_f0, Cy5_f0, Ay5_f1, cy5_f1, Cy5_f1, rfl, rfl, rfl, Hy5_f0, Hy5_f1⟩
  · rintro _ _ _ ⟨s1, rfl, As1_2_f0, cs1_2_f0, Cs1_2_f0, As1_2_f1, cs1_2_f1, Cs1_2_f1, rfl, rfl, rfl, Hs1_2_f0, Hs1_2_f1⟩
    clear h
    replace h := hk2
    refine QP.next ?_
    refine WP.pick [5] ?_
    refine WP.seqP [4] (L' := [(4, .int .i64 s1.1)]) (by kernel_rfl) ?_
    refine WP.ret ?_
    obtain rfl := Option.some.inj h
    exact QP.returned [4] [.int .i64 s1.1] _ (by kernel_rfl) (by kernel_rfl) (by kernel_rfl) (fun W hI => ⟨_, _, _, rfl, ⟨As1_2_f0, cs1_2_f0, Cs1_2_f0, As1_2_f1, cs1_2_f1, Cs1_2_f1, rfl, Hs1_2_f0, Hs1_2_f1, rfl, rfl⟩, hI⟩)

/-! ### grapevine/record.Same: function 64 -/
def record_Same (a0 : T36) (a1 : T36) : Option Bool := some (decide (a0 = a1))
set_option maxHeartbeats 4000000 in
theorem record_Same_calls {B : World} {G : GMap} {Γ : List Chunk} {W : World} (a0 : T36) (a1 : T36) (r : Bool) (h : record_Same a0 a1 = some r) (hI : Inv B G (Γ) W) :
    Calls Tryd.prog 64 [.agg #[.int .i64 a0.f0, .int .i64 a0.f1, .int .i64 a0.f2, .int .i64 a0.f3, .string a0.f4], .agg #[.int .i64 a1.f0, .int .i64 a1.f1, .int .i64 a1.f2, .int .i64 a1.f3, .string a1.f4]].toArray W (Ret B (fun v G' Γ' => v = .bool r ∧ G = G' ∧ Γ = Γ')) := by
  refine calls_WP (Γ := Γ) (G := G) (B := B) Tryd.func64 rfl (by kernel_rfl) ?_ hI
  clear hI
  unfold record_Same at h
  refine WP.seqR ?_
  refine WL.op (op := .box 36 (.tmp 0)) (ty := 0) (d := some 2) (g := none) (by kernel_rfl) (by kernel_rfl) (by kernel_rfl) (Does.new (o := .cells #[.int .i64 a0.f0, .int .i64 a0.f1, .int .i64 a0.f2, .int .i64 a0.f3, .string a0.f4] 36 (0, 0)) (v := fun r => .pointer (some ⟨r, 0, none⟩)) (fun r => by kernel_rfl)) ?_
  rintro _ _ _ ⟨b1, rfl, rfl, rfl⟩
  refine WL.op (op := .box 36 (.tmp 1)) (ty := 0) (d := some 3) (g := none) (by kernel_rfl) (by kernel_rfl) (by kernel_rfl) (Does.new (o := .cells #[.int .i64 a1.f0, .int .i64 a1.f1, .int .i64 a1.f2, .int .i64 a1.f3, .string a1.f4] 36 (0, 0)) (v := fun r => .pointer (some ⟨r, 0, none⟩)) (fun r => by kernel_rfl)) ?_
  rintro _ _ _ ⟨b2, rfl, rfl, rfl⟩
  refine WL.restQ 2 [2, 3] (L' := [(2, .pointer (some ⟨b1, 0, none⟩)), (3, .pointer (some ⟨b2, 0, none⟩))]) (by kernel_rfl) ?_
  refine WP.seqR ?_
  refine WL.tell (op := .load 36 (.tmp 2)) (ty := 36) (d := some 5) (g := none) (by kernel_rfl) (by kernel_rfl) (by kernel_rfl) (Tells.load_box (i := 1) (b := b1) (o := 0) (agg := true) (by rfl) ag36 (by kernel_rfl) (fun h => by cases h) (Nat.le_of_ble_eq_true rfl) (v := .agg #[.int .i64 a0.f0, .int .i64 a0.f1, .int .i64 a0.f2, .int .i64 a0.f3, .string a0.f4]) (by kernel_rfl)) ?_
  refine WL.tell (op := .load 36 (.tmp 3)) (ty := 36) (d := some 6) (g := none) (by kernel_rfl) (by kernel_rfl) (by kernel_rfl) (Tells.load_box (i := 0) (b := b2) (o := 0) (agg := true) (by rfl) ag36 (by kernel_rfl) (fun h => by cases h) (Nat.le_of_ble_eq_true rfl) (v := .agg #[.int .i64 a1.f0, .int .i64 a1.f1, .int .i64 a1.f2, .int .i64 a1.f3, .string a1.f4]) (by kernel_rfl)) ?_
  refine WL.tell (op := .binOp .eql 36 (.tmp 5) (.tmp 6) 36) (ty := 4) (d := some 7) (g := none) (by kernel_rfl) (by kernel_rfl) (by kernel_rfl) (Tells.eqAgg (xs := #[.int .i64 a0.f0, .int .i64 a0.f1, .int .i64 a0.f2, .int .i64 a0.f3, .string a0.f4]) (ys := #[.int .i64 a1.f0, .int .i64 a1.f1, .int .i64 a1.f2, .int .i64 a1.f3, .string a1.f4]) (ls := [.int a0.f0 a1.f0, .int a0.f1 a1.f1, .int a0.f2 a1.f2, .int a0.f3 a1.f3, .str a0.f4 a1.f4]) (by kernel_rfl) (by kernel_rfl) (by kernel_rfl) eg36) ?_
  refine WL.reput 7 (v := .bool ([.int a0.f0 a1.f0, .int a0.f1 a1.f1, .int a0.f2 a1.f2, .int a0.f3 a1.f3, .str a0.f4 a1.f4].all Lf.ok)) (v' := .bool (decide (a0 = a1))) (by kernel_rfl) (by exact (congrArg Value.bool (eqT36 a0 a1))) ?_
  refine WL.restQ 3 [4] (L' := [(4, .bool (decide (a0 = a1)))]) (by kernel_rfl) ?_
  refine WP.dropAt 1 ?_
  refine WP.dropAt 0 ?_
  refine WP.ret ?_
  obtain rfl := Option.some.inj h
  exact QP.returned [4] [.bool (decide (a0 = a1))] _ (by kernel_rfl) (by kernel_rfl) (by kernel_rfl) (fun W hI => ⟨_, _, _, rfl, ⟨rfl, rfl, rfl⟩, hI⟩)
end Go.Proofs.YtajhihpaccggdaaDoor.Gf
