/- Walks of Go functions: what each tells, as a plain Lean function, and that the Go code comes to it. Written by gg.py of this repo. -/
import Derived.Test.YtmphcmgbognmnaaT
namespace Go.Proofs.Ytmphcmgbognmnaa.Gf
open Go Go.Gg
set_option maxRecDepth 100000
set_option linter.unusedVariables false
set_option linter.unusedSimpArgs false

/-! ### grapevine/grapevinelaw0.Low: function 31 -/
def grapevinelaw0_Low (a0 : Int) (a1 : Int) : Option Int := (if ¬ (IntKind.u64.wrap a1) = 0 then some (IntKind.i64.wrap (Int.tmod (IntKind.u64.wrap a0) (IntKind.u64.wrap a1))) else none)
set_option maxHeartbeats 4000000 in
theorem grapevinelaw0_Low_calls {B : World} {G : GMap} {Γ : List Chunk} {W : World} (a0 : Int) (a1 : Int) (r : Int) (h : grapevinelaw0_Low a0 a1 = some r) (hI : Inv B G (Γ) W) :
    Calls Try.prog 31 [.int .i64 a0, .int .i64 a1].toArray W (Ret B (fun v G' Γ' => v = .int .i64 r ∧ G = G' ∧ Γ = Γ')) := by
  refine calls_WP (Γ := Γ) (G := G) (B := B) Try.func31 rfl (by kernel_rfl) ?_ hI
  clear hI
  unfold grapevinelaw0_Low at h
  refine WP.seqP [0, 1] (L' := [(0, .int .i64 a0), (1, .int .i64 a1)]) (by kernel_rfl) ?_
  refine WP.seqR ?_
  refine WL.pure 0 4 [6, 8] (L' := [(6, .int .u64 (IntKind.u64.wrap a0)), (8, .int .u64 (IntKind.u64.wrap a1))]) (by kernel_rfl) (by decide) ?_
  by_cases hb1 : ¬ (IntKind.u64.wrap a1) = 0
  case neg => rw [if_neg hb1] at h; cases h
  rw [if_pos hb1] at h
  refine WL.tell (op := .binOp .rem 83 (.tmp 6) (.tmp 8) 83) (ty := 83) (d := some 9) (g := none) (by kernel_rfl) (by kernel_rfl) (by kernel_rfl) (Tells.rem (k := .u64) (a := (IntKind.u64.wrap a0)) (b := (IntKind.u64.wrap a1)) (by kernel_rfl) (by kernel_rfl) hb1) ?_
  refine WL.restQ 5 [4] (L' := [(4, .int .i64 (IntKind.i64.wrap (Int.tmod (IntKind.u64.wrap a0) (IntKind.u64.wrap a1))))]) (by kernel_rfl) ?_
  refine WP.ret ?_
  obtain rfl := Option.some.inj h
  exact QP.returned [4] [.int .i64 (IntKind.i64.wrap (Int.tmod (IntKind.u64.wrap a0) (IntKind.u64.wrap a1)))] _ (by kernel_rfl) (by kernel_rfl) (by kernel_rfl) (fun W hI => ⟨_, _, _, rfl, ⟨rfl, rfl, rfl⟩, hI⟩)

/-! ### grapevine/bag.New: function 42 -/
def bag_New (a0 : Int) : Option (Option T89) := ((if a0 < 0 then some true else some (decide (a0 > 24))).bind fun s1 => (if s1 = true then some none else some (some (⟨a0, ([] : List T94)⟩ : T89))))
set_option maxHeartbeats 4000000 in
theorem bag_New_calls {B : World} {G : GMap} {Γ : List Chunk} {W : World} (a0 : Int) (r : Option T89) (h : bag_New a0 = some r) (hI : Inv B G (Γ) W) :
    Calls Try.prog 42 [.int .i64 a0].toArray W (Ret B (fun v G' Γ' => (r = none ∧ v = .pointer none ∧ G = G' ∧ Γ = Γ') ∨ (∃ (x : T89), r = some x ∧ ∃ (bR : Nat), ∃ (AR : Option Addr), ∃ (cR : Nat), ∃ (CR : Chunk), v = .pointer (some ⟨bR, 0, none⟩) ∧ Dp d94 G' AR cR x.f1 CR ∧ G = G' ∧ [(bR, .cells #[.int .i64 x.f0, .slice AR x.f1.length cR] 89 (0, 0))] :: CR :: Γ = Γ'))) := by
  refine calls_WP (Γ := Γ) (G := G) (B := B) Try.func42 rfl (by kernel_rfl) ?_ hI
  clear hI
  unfold bag_New at h
  refine WP.seqP [0] (L' := [(0, .int .i64 a0)]) (by kernel_rfl) ?_
  refine WP.seq ?_
  rw [Option.bind_eq_some_iff] at h
  obtain ⟨os1, h, hk2⟩ := h
  refine WP.cut (fun L' G' Γ' => ∃ s1 : Bool, s1 = os1 ∧ L' = [(0, .int .i64 a0), (8, .bool s1)] ∧ G = G' ∧ Γ = Γ') ?_ ?_
  · clear hk2
    refine WP.region ?_
    refine WL.pure 0 3 [0, 5] (L' := [(0, .int .i64 a0), (5, .bool (decide (a0 < 0)))]) (by kernel_rfl) (by decide) ?_
    refine WL.split 5 (b := decide (a0 < 0)) (by kernel_rfl) (fun hc => ?_) (fun hc => ?_)
    · replace hc := of_decide_eq_true hc
      rw [if_pos hc] at h
      have hc3 := hc
      clear hc
      refine WL.rest 3 [0, 8] (L' := [(0, .int .i64 a0), (8, .bool true)]) (by kernel_rfl) ?_
      refine QP.pick [0, 8] ?_
      exact QP.meet ⟨_, Option.some.inj h, rfl, rfl, rfl⟩
    · replace hc := of_decide_eq_false hc
      rw [if_neg hc] at h
      have hc3 := hc
      clear hc
      refine WL.rest 3 [0, 8] (L' := [(0, .int .i64 a0), (8, .bool (decide (a0 > 24)))]) (by kernel_rfl) ?_
      refine QP.pick [0, 8] ?_
      exact QP.meet ⟨_, Option.some.inj h, rfl, rfl, rfl⟩
  · rintro _ _ _ ⟨s1, rfl, rfl, rfl, rfl⟩
    clear h
    replace h := hk2
    refine WP.cond (b := s1) (by kernel_rfl) (fun hc => ?_) (fun hc => ?_)
    · replace hc := hc
      rw [if_pos hc] at h
      have hc4 := hc
      clear hc
      refine WP.seqP [2] (L' := [(2, .pointer none)]) (by kernel_rfl) ?_
      refine WP.ret ?_
      refine QP.thenR ?_
      obtain rfl := Option.some.inj h
      exact QP.returned [2] [.pointer none] _ (by kernel_rfl) (by kernel_rfl) (by kernel_rfl) (fun W hI => ⟨_, _, _, rfl, (Or.inl ⟨rfl, ⟨rfl, rfl, rfl⟩⟩), hI⟩)
    · replace hc := (Bool.eq_false_iff.1 hc)
      rw [if_neg hc] at h
      have hc4 := hc
      clear hc
      refine WP.skip ?_
      refine QP.next ?_
      refine WP.pick [0] ?_
      refine WP.seqR ?_
      refine WL.pure 0 2 [10] (L' := [(10, .agg #[.int .i64 a0, .slice none 0 0])]) (by kernel_rfl) (by decide) ?_
      refine WL.op (op := .box 89 (.tmp 10)) (ty := 67) (d := some 11) (g := none) (by kernel_rfl) (by kernel_rfl) (by kernel_rfl) (Does.new (o := .cells #[.int .i64 a0, .slice none 0 0] 89 (0, 0)) (v := fun r => .pointer (some ⟨r, 0, none⟩)) (fun r => by kernel_rfl)) ?_
      rintro _ _ _ ⟨b5, rfl, rfl, rfl⟩
      refine WL.restQ 3 [2] (L' := [(2, .pointer (some ⟨b5, 0, none⟩))]) (by kernel_rfl) ?_
      refine WP.ret ?_
      obtain rfl := Option.some.inj h
      refine QP.addNil ?_
      refine QP.front (i := 1) rfl ?_
      exact QP.returned [2] [.pointer (some ⟨b5, 0, none⟩)] _ (by kernel_rfl) (by kernel_rfl) (by kernel_rfl) (fun W hI => ⟨_, _, _, rfl, (Or.inr ⟨_, rfl, ⟨b5, none, 0, [], rfl, (Dp.nil d94 _), rfl, rfl⟩⟩), hI⟩)

/-! ### slices.Clone[[]byte,byte]: function 62 -/
def slices_Clone_byte_byte (l0 : List Int) : Option (List Int) := if l0.length ≤ 1073741824 then some l0 else none
set_option maxHeartbeats 4000000 in
theorem slices_Clone_byte_byte_calls {B : World} {G : GMap} {Γ : List Chunk} {W : World} (l0 : List Int) (Al0 : Option Addr) (cl0 : Nat) (Hl0 : Rd (kInt .u8) G Al0 cl0 l0) (r : List Int) (h : slices_Clone_byte_byte l0 = some r) (hI : Inv B G Γ W) :
    Calls Try.prog 62 [.slice Al0 l0.length cl0].toArray W (Ret B (fun v G' Γ' => ∃ (AR : Option Addr), ∃ (cR : Nat), ∃ (CR : Chunk), v = .slice AR r.length cR ∧ Ow (kInt .u8) G' AR cR r CR ∧ G = G' ∧ CR :: Γ = Γ')) := by
  refine calls_WP (Γ := Γ) (G := G) (B := B) Try.func62 rfl (by kernel_rfl) ?_ hI
  clear hI
  unfold slices_Clone_byte_byte at h
  by_cases hb : l0.length ≤ 1073741824
  case neg => rw [if_neg hb] at h; cases h
  rw [if_pos hb] at h
  obtain rfl := Option.some.inj h
  refine WP.seqP [0] (L' := [(0, .slice Al0 l0.length cl0)]) (by kernel_rfl) ?_
  refine WP.seq ?_
  cases Al0 with
  | none =>
    obtain rfl : l0 = [] := by
      cases l0 with
      | nil => rfl
      | cons x xs => obtain ⟨_, e, _⟩ := Hl0.2 (by simp); cases e
    refine WP.seqP [4] (L' := [(4, .bool true)]) (by kernel_rfl) ?_
    refine WP.yes (by kernel_rfl) ?_
    refine WP.seqP [2] (L' := [(2, .slice none 0 0)]) (by kernel_rfl) ?_
    refine WP.ret ?_
    refine QP.thenR ?_
    refine QP.addNil ?_
    exact QP.returned [2] [.slice none 0 0] _ (by kernel_rfl) (by kernel_rfl) (by kernel_rfl) (fun W hI => ⟨_, _, _, rfl, ⟨none, 0, [], rfl, Ow.nil _ _, rfl, rfl⟩, hI⟩)
  | some a =>
    refine WP.seqP [0, 4] (L' := [(0, .slice (some a) l0.length cl0), (4, .bool false)]) (by kernel_rfl) ?_
    refine WP.no (by kernel_rfl) ?_
    refine WP.skip ?_
    refine QP.next ?_
    refine WP.pick [0] ?_
    refine WP.seqR ?_
    refine WL.op (op := .buildSlice 70 0 #[]) (ty := 70) (d := some 5) (g := none) (by kernel_rfl) (by kernel_rfl) (by kernel_rfl) (Does.new (o := .cells #[] 5 (0, 0)) (v := fun r => .slice (some ⟨r, 0, none⟩) 0 0) (fun r => by kernel_rfl)) ?_
    rintro _ _ _ ⟨b, rfl, rfl, rfl⟩
    have H0 : Ow (kInt .u8) G (some ⟨b, 0, none⟩) 0 ([] : List Int) [(b, .cells #[] 5 (0, 0))] := Ow.lit (kd := (kInt .u8)) (G := G) (b := b) (T := 5) (xs := []) (cs := []) .nil
    refine WL.pure 1 2 [5, 6] (L' := [(5, .slice (some ⟨b, 0, none⟩) 0 0), (6, .slice (some a) l0.length cl0)]) (by kernel_rfl) (by decide) ?_
    refine WL.op (op := .call { callee := (.builtin .append), args := #[(.tmp 5), (.tmp 6)], argTypes := #[70, 70] }) (ty := 70) (d := some 7) (g := none) (by kernel_rfl) (by kernel_rfl) (by kernel_rfl) (Ow.append (ys := l0) (v := .slice (some a) l0.length cl0) H0 (i := 0) rfl (by kernel_rfl) (by kernel_rfl) Hl0.src sl70 ze5 nt70 (by decide) (by simpa using hb)) ?_
    rintro _ _ _ ⟨rfl, A1, c1, C1, rfl, H1, rfl⟩
    refine WL.restQ 3 [2] (L' := [(2, .slice A1 l0.length c1)]) (by kernel_rfl) ?_
    refine WP.ret ?_
    exact QP.returned [2] [.slice A1 l0.length c1] _ (by kernel_rfl) (by kernel_rfl) (by kernel_rfl) (fun W hI => ⟨_, _, _, rfl, ⟨A1, c1, C1, rfl, H1, rfl, rfl⟩, hI⟩)

/-! ### (*grapevine/bag.Bag).add: function 59 -/
def bag_Bag_add (a0 : T89) (a1 : T94) : Option (Int × T89) := (if (a0.f1.length : Int) ≥ a0.f0 then some (10, a0) else ((slices_Clone_byte_byte a1.f1).bind fun t3 => (if a0.f1.length + ([(⟨a1.f0, t3, a1.f2⟩ : T94)] : List T94).length ≤ 1073741824 then some (0, (⟨a0.f0, (a0.f1 ++ ([(⟨a1.f0, t3, a1.f2⟩ : T94)] : List T94))⟩ : T89)) else none)))
set_option maxHeartbeats 4000000 in
theorem bag_Bag_add_calls {B : World} {G : GMap} {Γ : List Chunk} {W : World} (a0 : T89) (a1 : T94) (b0 : Nat) (Aa0_f1 : Option Addr) (ca0_f1 : Nat) (Ca0_f1 : Chunk) (Ha0_f1 : Dp d94 G Aa0_f1 ca0_f1 a0.f1 Ca0_f1) (Aa1_f1 : Option Addr) (ca1_f1 : Nat) (Ha1_f1 : Rd (kInt .u8) G Aa1_f1 ca1_f1 a1.f1) (r : Int × T89) (h : bag_Bag_add a0 a1 = some r) (hI : Inv B G ([(b0, .cells #[.int .i64 a0.f0, .slice Aa0_f1 a0.f1.length ca0_f1] 89 (0, 0))] :: Ca0_f1 :: Γ) W) :
    Calls Try.prog 59 [.pointer (some ⟨b0, 0, none⟩), .agg #[.int .i64 a1.f0, .slice Aa1_f1 a1.f1.length ca1_f1, .bool a1.f2]].toArray W (Ret B (fun v G' Γ' => ∃ (ARp0 : Option Addr), ∃ (cRp0 : Nat), ∃ (CRp0 : Chunk), v = .int .i64 r.1 ∧ Dp d94 G' ARp0 cRp0 r.2.f1 CRp0 ∧ G = G' ∧ [(b0, .cells #[.int .i64 r.2.f0, .slice ARp0 r.2.f1.length cRp0] 89 (0, 0))] :: CRp0 :: Γ = Γ')) := by
  refine calls_WP (Γ := [(b0, .cells #[.int .i64 a0.f0, .slice Aa0_f1 a0.f1.length ca0_f1] 89 (0, 0))] :: Ca0_f1 :: Γ) (G := G) (B := B) Try.func59 rfl (by kernel_rfl) ?_ hI
  clear hI
  unfold bag_Bag_add at h
  refine WP.seqR ?_
  refine WL.op (op := .box 94 (.tmp 1)) (ty := 0) (d := some 3) (g := none) (by kernel_rfl) (by kernel_rfl) (by kernel_rfl) (Does.new (o := .cells #[.int .i64 a1.f0, .slice Aa1_f1 a1.f1.length ca1_f1, .bool a1.f2] 94 (0, 0)) (v := fun r => .pointer (some ⟨r, 0, none⟩)) (fun r => by kernel_rfl)) ?_
  rintro _ _ _ ⟨b1, rfl, rfl, rfl⟩
  refine WL.restQ 1 [0, 3] (L' := [(0, .pointer (some ⟨b0, 0, none⟩)), (3, .pointer (some ⟨b1, 0, none⟩))]) (by kernel_rfl) ?_
  refine WP.seq ?_
  refine WP.seq ?_
  refine WP.any (N := 10) (S := [⟨some 5, [0], []⟩, ⟨some 6, [5], [0]⟩, ⟨some 7, [6], [1]⟩, ⟨some 8, [7], [2]⟩, ⟨some 9, [8], [3]⟩, ⟨some 10, [0], []⟩, ⟨some 11, [10], [5]⟩, ⟨some 12, [11], [6]⟩, ⟨some 13, [12], [7]⟩, ⟨some 14, [9, 13], [4, 8]⟩]) (kw := 10) (G0 := G) (Γ0 := [(b1, .cells #[.int .i64 a1.f0, .slice Aa1_f1 a1.f1.length ca1_f1, .bool a1.f2] 94 (0, 0))] :: [(b0, .cells #[.int .i64 a0.f0, .slice Aa0_f1 a0.f1.length ca0_f1] 89 (0, 0))] :: Ca0_f1 :: Γ) mo (by kernel_rfl) (fun hS => ?_)
  refine WA.pure [0, 1, 2, 5, 6, 7] [0, 3, 7, 12] (m := 4) (b' := 231) (L' := [(0, .pointer (some ⟨b0, 0, none⟩)), (3, .pointer (some ⟨b1, 0, none⟩)), (7, .pointer (some ⟨b0, 1, none⟩)), (12, .pointer (some ⟨b0, 0, none⟩))]) (by kernel_rfl) (NoPanic.then (NoPanic.then (NoPanic.body))) Under.refl hS (by kernel_rfl) ?_
  refine WA.tellD [] (i := 3) (m := 3) (b' := 239) (by kernel_rfl) (NoPanic.then (NoPanic.then (NoPanic.body))) Under.refl hS (by kernel_rfl) (op := .load 87 (.tmp 7)) (ty := 87) (d := some 8) (g := none) (by kernel_rfl) (by kernel_rfl) (by kernel_rfl) (Tells.load_box (i := 1) (b := b0) (o := 1) (agg := false) (by rfl) ag87 (by kernel_rfl) (fun _ => rfl) (Nat.le_of_ble_eq_true rfl) (v := .slice Aa0_f1 a0.f1.length ca0_f1) (by kernel_rfl)) ?_
  refine WA.pure [4] [0, 3, 9, 12] (m := 2) (b' := 255) (L' := [(0, .pointer (some ⟨b0, 0, none⟩)), (3, .pointer (some ⟨b1, 0, none⟩)), (9, .int .i64 (a0.f1.length : Int)), (12, .pointer (some ⟨b0, 0, none⟩))]) (by kernel_rfl) (NoPanic.then (NoPanic.then (NoPanic.body))) Under.refl hS (by kernel_rfl) ?_
  refine WA.tellD [] (i := 8) (m := 1) (b' := 511) (by kernel_rfl) (NoPanic.then (NoPanic.then (NoPanic.body))) Under.refl hS (by kernel_rfl) (op := .load 3 (.tmp 12)) (ty := 3) (d := some 13) (g := none) (by kernel_rfl) (by kernel_rfl) (by kernel_rfl) (Tells.load_box (i := 1) (b := b0) (o := 0) (agg := false) (by rfl) ag3 (by kernel_rfl) (fun _ => rfl) (Nat.le_of_ble_eq_true rfl) (v := .int .i64 a0.f0) (by kernel_rfl)) ?_
  refine WA.pure [9] [0, 3, 14] (m := 0) (b' := 1023) (L' := [(0, .pointer (some ⟨b0, 0, none⟩)), (3, .pointer (some ⟨b1, 0, none⟩)), (14, .bool (decide ((a0.f1.length : Int) ≥ a0.f0)))]) (by kernel_rfl) (NoPanic.then (NoPanic.then (NoPanic.body))) Under.refl hS (by kernel_rfl) ?_
  refine WA.done hS (by kernel_rfl) ?_
  refine QP.pick [0, 3, 14] ?_
  refine QP.next ?_
  refine WP.cond (b := decide ((a0.f1.length : Int) ≥ a0.f0)) (by kernel_rfl) (fun hc => ?_) (fun hc => ?_)
  · replace hc := of_decide_eq_true hc
    rw [if_pos hc] at h
    have hc2 := hc
    clear hc
    refine WP.seqP [4] (L' := [(4, .int .i64 10)]) (by kernel_rfl) ?_
    refine WP.dropAt 0 ?_
    refine WP.ret ?_
    refine QP.thenR ?_
    obtain rfl := Option.some.inj h
    exact QP.returned [4] [.int .i64 10] _ (by kernel_rfl) (by kernel_rfl) (by kernel_rfl) (fun W hI => ⟨_, _, _, rfl, ⟨Aa0_f1, ca0_f1, Ca0_f1, rfl, Ha0_f1, rfl, rfl⟩, hI⟩)
  · replace hc := of_decide_eq_false hc
    rw [if_neg hc] at h
    have hc2 := hc
    clear hc
    refine WP.skip ?_
    refine QP.next ?_
    refine WP.pick [0, 3] ?_
    refine WP.seqR ?_
    refine WL.pure 0 2 [0, 3, 16] (L' := [(0, .pointer (some ⟨b0, 0, none⟩)), (3, .pointer (some ⟨b1, 0, none⟩)), (16, .pointer (some ⟨b1, 1, none⟩))]) (by kernel_rfl) (by decide) ?_
    refine WL.tell (op := .load 70 (.tmp 16)) (ty := 70) (d := some 17) (g := none) (by kernel_rfl) (by kernel_rfl) (by kernel_rfl) (Tells.load_box (i := 0) (b := b1) (o := 1) (agg := false) (by rfl) ag70 (by kernel_rfl) (fun _ => rfl) (Nat.le_of_ble_eq_true rfl) (v := .slice Aa1_f1 a1.f1.length ca1_f1) (by kernel_rfl)) ?_
    rw [Option.bind_eq_some_iff] at h
    obtain ⟨t3, ht4, h⟩ := h
    refine WL.op (op := .call { callee := (.value (.func 62)), args := #[(.tmp 17)], argTypes := #[70] }) (ty := 70) (d := some 18) (g := none) (by kernel_rfl) (by kernel_rfl) (by kernel_rfl) (Does.call (f := 62) (args := [.slice Aa1_f1 a1.f1.length ca1_f1]) (by kernel_rfl) (fun W hI => (slices_Clone_byte_byte_calls a1.f1 Aa1_f1 ca1_f1 Ha1_f1 t3 ht4 hI))) ?_
    rintro _ _ _ ⟨AR5, cR5, CR5, rfl, HR5, rfl, rfl⟩
    refine WL.pure 4 6 [0, 3, 18, 20] (L' := [(0, .pointer (some ⟨b0, 0, none⟩)), (3, .pointer (some ⟨b1, 0, none⟩)), (18, .slice AR5 t3.length cR5), (20, .pointer (some ⟨b1, 1, none⟩))]) (by kernel_rfl) (by decide) ?_
    refine WL.op (op := .store 70 (.tmp 20) (.tmp 18)) (ty := 0) (d := none) (g := none) (by kernel_rfl) (by kernel_rfl) (by kernel_rfl) (Does.store_box (i := 1) (b := b1) (o := 1) (v := .slice AR5 t3.length cR5) (by rfl) sz70 (by kernel_rfl) (by kernel_rfl) (by kernel_rfl) (Free.zero _) (Nat.le_of_ble_eq_true rfl) (cells' := #[.int .i64 a1.f0, .slice AR5 t3.length cR5, .bool a1.f2]) (by kernel_rfl)) ?_
    rintro _ _ _ ⟨rfl, rfl, rfl⟩
    refine WL.restQ 7 [0, 3] (L' := [(0, .pointer (some ⟨b0, 0, none⟩)), (3, .pointer (some ⟨b1, 0, none⟩))]) (by kernel_rfl) ?_
    refine WP.seq ?_
    refine WP.any (N := 11) (S := [⟨some 21, [0], []⟩, ⟨some 22, [0], []⟩, ⟨some 23, [22], [1]⟩, ⟨some 24, [23], [2]⟩, ⟨some 25, [24], [3]⟩, ⟨some 26, [3], []⟩, ⟨some 27, [26], [5]⟩, ⟨some 28, [25, 27], [4, 6]⟩, ⟨some 29, [21], [0, 1, 2, 3, 4, 5, 6, 7]⟩, ⟨some 30, [29], [0, 1, 2, 3, 4, 5, 6, 7, 8]⟩, ⟨none, [28, 30], [0, 1, 2, 3, 4, 5, 6, 7, 9]⟩]) (kw := 7) (G0 := G) (Γ0 := CR5 :: [(b1, .cells #[.int .i64 a1.f0, .slice AR5 t3.length cR5, .bool a1.f2] 94 (0, 0))] :: [(b0, .cells #[.int .i64 a0.f0, .slice Aa0_f1 a0.f1.length ca0_f1] 89 (0, 0))] :: Ca0_f1 :: Γ) mo (by kernel_rfl) (fun hS => ?_)
    refine WA.pure [0, 1, 2, 3] [3, 21, 24] (m := 7) (b' := 15) (L' := [(3, .pointer (some ⟨b1, 0, none⟩)), (21, .pointer (some ⟨b0, 0, none⟩)), (24, .pointer (some ⟨b0, 1, none⟩))]) (by kernel_rfl) (NoPanic.then (NoPanic.body)) Under.refl hS (by kernel_rfl) ?_
    refine WA.tellD [7] (i := 4) (m := 6) (b' := 31) (by kernel_rfl) (NoPanic.then (NoPanic.body)) Under.refl hS (by kernel_rfl) (op := .load 87 (.tmp 24)) (ty := 87) (d := some 25) (g := none) (by kernel_rfl) (by kernel_rfl) (by kernel_rfl) (Tells.load_box (i := 2) (b := b0) (o := 1) (agg := false) (by rfl) ag87 (by kernel_rfl) (fun _ => rfl) (Nat.le_of_ble_eq_true rfl) (v := .slice Aa0_f1 a0.f1.length ca0_f1) (by kernel_rfl)) ?_
    refine WA.tellD [7, 6] (i := 5) (m := 5) (b' := 63) (by kernel_rfl) (NoPanic.then (NoPanic.body)) Under.refl hS (by kernel_rfl) (op := .load 94 (.tmp 3)) (ty := 94) (d := some 26) (g := none) (by kernel_rfl) (by kernel_rfl) (by kernel_rfl) (Tells.load_box (i := 1) (b := b1) (o := 0) (agg := true) (by rfl) ag94 (by kernel_rfl) (fun h => by cases h) (Nat.le_of_ble_eq_true rfl) (v := .agg #[.int .i64 a1.f0, .slice AR5 t3.length cR5, .bool a1.f2]) (by kernel_rfl)) ?_
    refine WA.op (i := 6) (m := 4) (b' := 127) (by kernel_rfl) hS (by kernel_rfl) (op := .buildSlice 87 1 #[(0, (.tmp 26))]) (ty := 87) (d := some 27) (g := none) (by kernel_rfl) (by kernel_rfl) (by kernel_rfl) (Does.new (o := .cells #[.int .i64 a1.f0, .slice AR5 t3.length cR5, .bool a1.f2] 94 (0, 0)) (v := fun r => .slice (some ⟨r, 0, none⟩) 1 1) (fun r => by kernel_rfl)) ?_
    rintro _ _ _ ⟨b7, rfl, rfl, rfl⟩
    refine ⟨_, _, Under.cons Under.refl, Under.refl, ?_⟩
    refine WA.front (i := 1) rfl ?_
    refine WA.front (i := 4) rfl ?_
    by_cases hb10 : a0.f1.length + ([(⟨a1.f0, t3, a1.f2⟩ : T94)] : List T94).length ≤ 1073741824
    case neg => rw [if_neg hb10] at h; cases h
    rw [if_pos hb10] at h
    refine WA.opK (i := 7) (kw' := 10) (m := 3) (b' := 255) (by kernel_rfl) rfl hS (by kernel_rfl) (op := .call { callee := (.builtin .append), args := #[(.tmp 25), (.tmp 27)], argTypes := #[87, 87] }) (ty := 87) (d := some 28) (g := none) (by kernel_rfl) (by kernel_rfl) (by kernel_rfl) (Dp.append1L Ha0_f1 [CR5] (e := (⟨a1.f0, t3, a1.f2⟩ : T94)) (cs := [.int .i64 a1.f0, .slice AR5 t3.length cR5, .bool a1.f2]) (show d94.rel (⟨a1.f0, t3, a1.f2⟩ : T94) [.int .i64 a1.f0, .slice AR5 t3.length cR5, .bool a1.f2] (List.flatten [CR5]) from by rw [show List.flatten [CR5] = (([] : Chunk) ++ (CR5 ++ ([] : Chunk))) by simp]; exact ⟨[.int .i64 a1.f0], _, ([] : Chunk), (CR5 ++ ([] : Chunk)), rfl, rfl, ⟨rfl, rfl⟩, ⟨[.slice AR5 t3.length cR5], _, CR5, ([] : Chunk), rfl, rfl, ⟨AR5, cR5, rfl, (HR5.flat (kInt_flat _))⟩, ⟨rfl, rfl⟩⟩⟩) (b := b7) (T := 94) (li := 2) (by kernel_rfl) (by kernel_rfl) rfl sl87 ze94 nt87 (by decide) hb10) ?_
    rintro _ _ _ ⟨rfl, AN11, cN11, CN11, rfl, HN11, rfl⟩
    refine ⟨_, _, Under.refl, ?_⟩
    refine WA.pure [8, 9] [28, 30] (m := 1) (b' := 1023) (L' := [(28, .slice AN11 (a0.f1 ++ ([(⟨a1.f0, t3, a1.f2⟩ : T94)] : List T94)).length cN11), (30, .pointer (some ⟨b0, 1, none⟩))]) (by kernel_rfl) (NoPanic.then (NoPanic.body)) Under.refl hS (by kernel_rfl) ?_
    refine WA.opK (i := 10) (kw' := 11) (m := 0) (b' := 2047) (by kernel_rfl) rfl hS (by kernel_rfl) (op := .store 87 (.tmp 30) (.tmp 28)) (ty := 0) (d := none) (g := none) (by kernel_rfl) (by kernel_rfl) (by kernel_rfl) (Does.store_box (i := 3) (b := b0) (o := 1) (v := .slice AN11 (a0.f1 ++ ([(⟨a1.f0, t3, a1.f2⟩ : T94)] : List T94)).length cN11) (by rfl) sz87 (by kernel_rfl) (by kernel_rfl) (by kernel_rfl) (Free.zero _) (Nat.le_of_ble_eq_true rfl) (cells' := #[.int .i64 a0.f0, .slice AN11 (a0.f1 ++ ([(⟨a1.f0, t3, a1.f2⟩ : T94)] : List T94)).length cN11]) (by kernel_rfl)) ?_
    rintro _ _ _ ⟨rfl, rfl, rfl⟩
    refine ⟨_, _, Under.refl, ?_⟩
    refine WA.done hS (by kernel_rfl) ?_
    refine QP.pick [] ?_
    refine QP.next ?_
    refine WP.dropAt 2 ?_
    refine WP.dropAt 1 ?_
    refine WP.seqP [4] (L' := [(4, .int .i64 0)]) (by kernel_rfl) ?_
    refine WP.ret ?_
    obtain rfl := Option.some.inj h
    refine QP.front (i := 1) rfl ?_
    exact QP.returned [4] [.int .i64 0] _ (by kernel_rfl) (by kernel_rfl) (by kernel_rfl) (fun W hI => ⟨_, _, _, rfl, ⟨AN11, cN11, CN11, rfl, HN11, rfl, rfl⟩, hI⟩)

/-! ### (*grapevine/bag.Bag).Put: function 43 -/
def bag_Bag_Put (a0 : T89) (a1 : Int) (l2 : List Int) : Option (Int × T89) := ((bag_Bag_add a0 (⟨a1, l2, false⟩ : T94)).bind fun t1 => some (t1.1, t1.2))
set_option maxHeartbeats 4000000 in
theorem bag_Bag_Put_calls {B : World} {G : GMap} {Γ : List Chunk} {W : World} (a0 : T89) (a1 : Int) (l2 : List Int) (b0 : Nat) (Aa0_f1 : Option Addr) (ca0_f1 : Nat) (Ca0_f1 : Chunk) (Ha0_f1 : Dp d94 G Aa0_f1 ca0_f1 a0.f1 Ca0_f1) (Al2 : Option Addr) (cl2 : Nat) (Hl2 : Rd (kInt .u8) G Al2 cl2 l2) (r : Int × T89) (h : bag_Bag_Put a0 a1 l2 = some r) (hI : Inv B G ([(b0, .cells #[.int .i64 a0.f0, .slice Aa0_f1 a0.f1.length ca0_f1] 89 (0, 0))] :: Ca0_f1 :: Γ) W) :
    Calls Try.prog 43 [.pointer (some ⟨b0, 0, none⟩), .int .i64 a1, .slice Al2 l2.length cl2].toArray W (Ret B (fun v G' Γ' => ∃ (ARp0 : Option Addr), ∃ (cRp0 : Nat), ∃ (CRp0 : Chunk), v = .int .i64 r.1 ∧ Dp d94 G' ARp0 cRp0 r.2.f1 CRp0 ∧ G = G' ∧ [(b0, .cells #[.int .i64 r.2.f0, .slice ARp0 r.2.f1.length cRp0] 89 (0, 0))] :: CRp0 :: Γ = Γ')) := by
  refine calls_WP (Γ := [(b0, .cells #[.int .i64 a0.f0, .slice Aa0_f1 a0.f1.length ca0_f1] 89 (0, 0))] :: Ca0_f1 :: Γ) (G := G) (B := B) Try.func43 rfl (by kernel_rfl) ?_ hI
  clear hI
  unfold bag_Bag_Put at h
  refine WP.seqP [0, 1, 2] (L' := [(0, .pointer (some ⟨b0, 0, none⟩)), (1, .int .i64 a1), (2, .slice Al2 l2.length cl2)]) (by kernel_rfl) ?_
  refine WP.seq ?_
  refine WP.seqP [0, 1, 2, 8] (L' := [(0, .pointer (some ⟨b0, 0, none⟩)), (1, .int .i64 a1), (2, .slice Al2 l2.length cl2), (8, .bool false)]) (by kernel_rfl) ?_
  refine WP.no (by kernel_rfl) ?_
  refine WP.skip ?_
  refine QP.next ?_
  refine WP.pick [0, 1, 2] ?_
  refine WP.seqR ?_
  refine WL.pure 0 5 [9, 13] (L' := [(9, .pointer (some ⟨b0, 0, none⟩)), (13, .agg #[.int .i64 a1, .slice Al2 l2.length cl2, .bool false])]) (by kernel_rfl) (by decide) ?_
  refine WL.front (i := 1) rfl ?_
  refine WL.front (i := 1) rfl ?_
  rw [Option.bind_eq_some_iff] at h
  obtain ⟨t1, ht2, h⟩ := h
  refine WL.op (op := .call { callee := (.value (.func 59)), args := #[(.tmp 9), (.tmp 13)], argTypes := #[67, 94] }) (ty := 41) (d := some 14) (g := none) (by kernel_rfl) (by kernel_rfl) (by kernel_rfl) (Does.call (f := 59) (args := [.pointer (some ⟨b0, 0, none⟩), .agg #[.int .i64 a1, .slice Al2 l2.length cl2, .bool false]]) (by kernel_rfl) (fun W hI => (bag_Bag_add_calls a0 (⟨a1, l2, false⟩ : T94) b0 Aa0_f1 ca0_f1 Ca0_f1 Ha0_f1 Al2 cl2 Hl2 t1 ht2 hI))) ?_
  rintro _ _ _ ⟨AR3p0, cR3p0, CR3p0, rfl, HR3p0, rfl, rfl⟩
  refine WL.restQ 6 [6] (L' := [(6, .int .i64 t1.1)]) (by kernel_rfl) ?_
  refine WP.ret ?_
  obtain rfl := Option.some.inj h
  exact QP.returned [6] [.int .i64 t1.1] _ (by kernel_rfl) (by kernel_rfl) (by kernel_rfl) (fun W hI => ⟨_, _, _, rfl, ⟨AR3p0, cR3p0, CR3p0, rfl, HR3p0, rfl, rfl⟩, hI⟩)

/-! ### (*grapevine/bag.Bag).Len: function 46 -/
def bag_Bag_Len (a0 : T89) : Option Int := some (a0.f1.length : Int)
set_option maxHeartbeats 4000000 in
theorem bag_Bag_Len_calls {B : World} {G : GMap} {Γ : List Chunk} {W : World} (a0 : T89) (b0 : Nat) (Aa0_f1 : Option Addr) (ca0_f1 : Nat) (Ca0_f1 : Chunk) (Ha0_f1 : Dp d94 G Aa0_f1 ca0_f1 a0.f1 Ca0_f1) (r : Int) (h : bag_Bag_Len a0 = some r) (hI : Inv B G ([(b0, .cells #[.int .i64 a0.f0, .slice Aa0_f1 a0.f1.length ca0_f1] 89 (0, 0))] :: Ca0_f1 :: Γ) W) :
    Calls Try.prog 46 [.pointer (some ⟨b0, 0, none⟩)].toArray W (Ret B (fun v G' Γ' => v = .int .i64 r ∧ G = G' ∧ [(b0, .cells #[.int .i64 a0.f0, .slice Aa0_f1 a0.f1.length ca0_f1] 89 (0, 0))] :: Ca0_f1 :: Γ = Γ')) := by
  refine calls_WP (Γ := [(b0, .cells #[.int .i64 a0.f0, .slice Aa0_f1 a0.f1.length ca0_f1] 89 (0, 0))] :: Ca0_f1 :: Γ) (G := G) (B := B) Try.func46 rfl (by kernel_rfl) ?_ hI
  clear hI
  unfold bag_Bag_Len at h
  refine WP.seqP [0] (L' := [(0, .pointer (some ⟨b0, 0, none⟩))]) (by kernel_rfl) ?_
  refine WP.seq ?_
  refine WP.seqP [0, 4] (L' := [(0, .pointer (some ⟨b0, 0, none⟩)), (4, .bool false)]) (by kernel_rfl) ?_
  refine WP.no (by kernel_rfl) ?_
  refine WP.skip ?_
  refine QP.next ?_
  refine WP.pick [0] ?_
  refine WP.seqR ?_
  refine WL.pure 0 3 [7] (L' := [(7, .pointer (some ⟨b0, 1, none⟩))]) (by kernel_rfl) (by decide) ?_
  refine WL.tell (op := .load 87 (.tmp 7)) (ty := 87) (d := some 8) (g := none) (by kernel_rfl) (by kernel_rfl) (by kernel_rfl) (Tells.load_box (i := 0) (b := b0) (o := 1) (agg := false) (by rfl) ag87 (by kernel_rfl) (fun _ => rfl) (Nat.le_of_ble_eq_true rfl) (v := .slice Aa0_f1 a0.f1.length ca0_f1) (by kernel_rfl)) ?_
  refine WL.restQ 4 [2] (L' := [(2, .int .i64 (a0.f1.length : Int))]) (by kernel_rfl) ?_
  refine WP.ret ?_
  obtain rfl := Option.some.inj h
  exact QP.returned [2] [.int .i64 (a0.f1.length : Int)] _ (by kernel_rfl) (by kernel_rfl) (by kernel_rfl) (fun W hI => ⟨_, _, _, rfl, ⟨rfl, rfl, rfl⟩, hI⟩)

/-! ### (*grapevine/bag.Bag).at: function 60 -/
def bag_Bag_at (a0 : T89) (a1 : Int) : Option Int := ((bag_Bag_Len a0).bind fun t1 => (if t1 = 0 then some (-1) else ((bag_Bag_Len a0).bind fun t6 => (if ¬ (IntKind.u64.wrap t6) = 0 then some (IntKind.i64.wrap (Int.tmod (IntKind.u64.wrap a1) (IntKind.u64.wrap t6))) else none))))
set_option maxHeartbeats 4000000 in
theorem bag_Bag_at_calls {B : World} {G : GMap} {Γ : List Chunk} {W : World} (a0 : T89) (a1 : Int) (b0 : Nat) (Aa0_f1 : Option Addr) (ca0_f1 : Nat) (Ca0_f1 : Chunk) (Ha0_f1 : Dp d94 G Aa0_f1 ca0_f1 a0.f1 Ca0_f1) (r : Int) (h : bag_Bag_at a0 a1 = some r) (hI : Inv B G ([(b0, .cells #[.int .i64 a0.f0, .slice Aa0_f1 a0.f1.length ca0_f1] 89 (0, 0))] :: Ca0_f1 :: Γ) W) :
    Calls Try.prog 60 [.pointer (some ⟨b0, 0, none⟩), .int .i64 a1].toArray W (Ret B (fun v G' Γ' => v = .int .i64 r ∧ G = G' ∧ [(b0, .cells #[.int .i64 a0.f0, .slice Aa0_f1 a0.f1.length ca0_f1] 89 (0, 0))] :: Ca0_f1 :: Γ = Γ')) := by
  refine calls_WP (Γ := [(b0, .cells #[.int .i64 a0.f0, .slice Aa0_f1 a0.f1.length ca0_f1] 89 (0, 0))] :: Ca0_f1 :: Γ) (G := G) (B := B) Try.func60 rfl (by kernel_rfl) ?_ hI
  clear hI
  unfold bag_Bag_at at h
  refine WP.seqP [0, 1] (L' := [(0, .pointer (some ⟨b0, 0, none⟩)), (1, .int .i64 a1)]) (by kernel_rfl) ?_
  refine WP.seq ?_
  refine WP.seqR ?_
  refine WL.pure 0 1 [0, 1, 5] (L' := [(0, .pointer (some ⟨b0, 0, none⟩)), (1, .int .i64 a1), (5, .pointer (some ⟨b0, 0, none⟩))]) (by kernel_rfl) (by decide) ?_
  refine WL.front (i := 1) rfl ?_
  refine WL.front (i := 1) rfl ?_
  rw [Option.bind_eq_some_iff] at h
  obtain ⟨t1, ht2, h⟩ := h
  refine WL.op (op := .call { callee := (.value (.func 46)), args := #[(.tmp 5)], argTypes := #[67] }) (ty := 3) (d := some 6) (g := none) (by kernel_rfl) (by kernel_rfl) (by kernel_rfl) (Does.call (f := 46) (args := [.pointer (some ⟨b0, 0, none⟩)]) (by kernel_rfl) (fun W hI => (bag_Bag_Len_calls a0 b0 Aa0_f1 ca0_f1 Ca0_f1 Ha0_f1 t1 ht2 hI))) ?_
  rintro _ _ _ ⟨rfl, rfl, rfl⟩
  refine WL.restQ 2 [0, 1, 7] (L' := [(0, .pointer (some ⟨b0, 0, none⟩)), (1, .int .i64 a1), (7, .bool (t1 == 0))]) (by kernel_rfl) ?_
  refine WP.cond (b := (t1 == 0)) (by kernel_rfl) (fun hc => ?_) (fun hc => ?_)
  · replace hc := eq_of_beq hc
    rw [if_pos hc] at h
    have hc5 := hc
    clear hc
    refine WP.seqP [4] (L' := [(4, .int .i64 (-1))]) (by kernel_rfl) ?_
    refine WP.ret ?_
    refine QP.thenR ?_
    obtain rfl := Option.some.inj h
    exact QP.returned [4] [.int .i64 (-1)] _ (by kernel_rfl) (by kernel_rfl) (by kernel_rfl) (fun W hI => ⟨_, _, _, rfl, ⟨rfl, rfl, rfl⟩, hI⟩)
  · replace hc := ne_of_beq_false hc
    rw [if_neg hc] at h
    have hc5 := hc
    clear hc
    refine WP.skip ?_
    refine QP.next ?_
    refine WP.pick [0, 1] ?_
    refine WP.seqR ?_
    refine WL.pure 0 3 [9, 10] (L' := [(9, .int .u64 (IntKind.u64.wrap a1)), (10, .pointer (some ⟨b0, 0, none⟩))]) (by kernel_rfl) (by decide) ?_
    refine WL.front (i := 1) rfl ?_
    refine WL.front (i := 1) rfl ?_
    rw [Option.bind_eq_some_iff] at h
    obtain ⟨t6, ht7, h⟩ := h
    refine WL.op (op := .call { callee := (.value (.func 46)), args := #[(.tmp 10)], argTypes := #[67] }) (ty := 3) (d := some 11) (g := none) (by kernel_rfl) (by kernel_rfl) (by kernel_rfl) (Does.call (f := 46) (args := [.pointer (some ⟨b0, 0, none⟩)]) (by kernel_rfl) (fun W hI => (bag_Bag_Len_calls a0 b0 Aa0_f1 ca0_f1 Ca0_f1 Ha0_f1 t6 ht7 hI))) ?_
    rintro _ _ _ ⟨rfl, rfl, rfl⟩
    refine WL.pure 4 5 [9, 12] (L' := [(9, .int .u64 (IntKind.u64.wrap a1)), (12, .int .u64 (IntKind.u64.wrap t6))]) (by kernel_rfl) (by decide) ?_
    by_cases hb10 : ¬ (IntKind.u64.wrap t6) = 0
    case neg => rw [if_neg hb10] at h; cases h
    rw [if_pos hb10] at h
    refine WL.tell (op := .binOp .rem 83 (.tmp 9) (.tmp 12) 83) (ty := 83) (d := some 13) (g := none) (by kernel_rfl) (by kernel_rfl) (by kernel_rfl) (Tells.rem (k := .u64) (a := (IntKind.u64.wrap a1)) (b := (IntKind.u64.wrap t6)) (by kernel_rfl) (by kernel_rfl) hb10) ?_
    refine WL.restQ 6 [4] (L' := [(4, .int .i64 (IntKind.i64.wrap (Int.tmod (IntKind.u64.wrap a1) (IntKind.u64.wrap t6))))]) (by kernel_rfl) ?_
    refine WP.ret ?_
    obtain rfl := Option.some.inj h
    exact QP.returned [4] [.int .i64 (IntKind.i64.wrap (Int.tmod (IntKind.u64.wrap a1) (IntKind.u64.wrap t6)))] _ (by kernel_rfl) (by kernel_rfl) (by kernel_rfl) (fun W hI => ⟨_, _, _, rfl, ⟨rfl, rfl, rfl⟩, hI⟩)

/-! ### slices.Delete[[]grapevine/bag.letter,grapevine/bag.letter]: function 61 -/
def bag_letter (l0 : List (Raw 3)) (a1 : Int) (a2 : Int) : Option (List (Raw 3)) := (if 0 ≤ a1 ∧ a1 ≤ a2 ∧ a2 ≤ (l0.length : Int) ∧ (l0.length : Int) ≤ (l0.length : Int) then (if a1 = a2 then some l0 else (if 0 ≤ a1 ∧ a1 ≤ (l0.length : Int) then (if 0 ≤ a2 ∧ a2 ≤ (l0.length : Int) then (if a1.toNat ≤ a2.toNat ∧ a2.toNat ≤ l0.length then ((some (l0.take a1.toNat ++ l0.drop a2.toNat)).bind fun v8 => (if (v8.length : Int) ≤ (l0.length : Int) ∧ (l0.length : Int) ≤ (l0.length : Int) then some v8 else none)) else none) else none) else none)) else none)
set_option maxHeartbeats 4000000 in
theorem bag_letter_calls {B : World} {G : GMap} {Γ : List Chunk} {W : World} (l0 : List (Raw 3)) (a1 : Int) (a2 : Int) (Al0 : Option Addr) (cl0 : Nat) (Cl0 : Chunk) (Hl0 : Ow (kRaw 3) G Al0 cl0 l0 Cl0) (r : List (Raw 3)) (h : bag_letter l0 a1 a2 = some r) (hI : Inv B G (Cl0 :: Γ) W) :
    Calls Try.prog 61 [.slice Al0 l0.length cl0, .int .i64 a1, .int .i64 a2].toArray W (Ret B (fun v G' Γ' => ∃ (AR : Option Addr), ∃ (cR : Nat), ∃ (CR : Chunk), v = .slice AR r.length cR ∧ Ow (kRaw 3) G' AR cR r CR ∧ G = G' ∧ CR :: Γ = Γ')) := by
  refine calls_WP (Γ := Cl0 :: Γ) (G := G) (B := B) Try.func61 rfl (by kernel_rfl) ?_ hI
  clear hI
  unfold bag_letter at h
  refine WP.seqP [0, 1, 2] (L' := [(0, .slice Al0 l0.length cl0), (1, .int .i64 a1), (2, .int .i64 a2)]) (by kernel_rfl) ?_
  refine WP.seqR ?_
  refine WL.pure 0 5 [0, 1, 2, 8, 9, 10, 12] (L' := [(0, .slice Al0 l0.length cl0), (1, .int .i64 a1), (2, .int .i64 a2), (8, .slice Al0 l0.length cl0), (9, .int .i64 a1), (10, .int .i64 a2), (12, .int .i64 (l0.length : Int))]) (by kernel_rfl) (by decide) ?_
  by_cases hb1 : 0 ≤ a1 ∧ a1 ≤ a2 ∧ a2 ≤ (l0.length : Int) ∧ (l0.length : Int) ≤ (l0.length : Int)
  case neg => rw [if_neg hb1] at h; cases h
  rw [if_pos hb1] at h
  refine WL.tell (op := .slice 87 (.tmp 8) (some (.tmp 9)) (some (.tmp 10)) (some (.tmp 12))) (ty := 87) (d := some 13) (g := none) (by kernel_rfl) (by kernel_rfl) (by kernel_rfl) (TellsW.tells (slice3 (k1 := .i64) (k2 := .i64) (k3 := .i64) (A := Al0) (n := l0.length) (c := cl0) (l := a1) (h := a2) (m := (l0.length : Int)) (by kernel_rfl) (by kernel_rfl) (by kernel_rfl) (by kernel_rfl) hb1.1 hb1.2.1 hb1.2.2.1 (Int.le_trans hb1.2.2.2 (Int.ofNat_le.2 Hl0.1)) sl87)) ?_
  refine WL.restQ 6 [0, 1, 2] (L' := [(0, .slice Al0 l0.length cl0), (1, .int .i64 a1), (2, .int .i64 a2)]) (by kernel_rfl) ?_
  refine WP.seq ?_
  refine WP.seqP [0, 1, 2, 16] (L' := [(0, .slice Al0 l0.length cl0), (1, .int .i64 a1), (2, .int .i64 a2), (16, .bool (a1 == a2))]) (by kernel_rfl) ?_
  refine WP.cond (b := (a1 == a2)) (by kernel_rfl) (fun hc => ?_) (fun hc => ?_)
  · replace hc := eq_of_beq hc
    rw [if_pos hc] at h
    have hc2 := hc
    clear hc
    refine WP.seqP [6] (L' := [(6, .slice Al0 l0.length cl0)]) (by kernel_rfl) ?_
    refine WP.ret ?_
    refine QP.thenR ?_
    obtain rfl := Option.some.inj h
    exact QP.returned [6] [.slice Al0 l0.length cl0] _ (by kernel_rfl) (by kernel_rfl) (by kernel_rfl) (fun W hI => ⟨_, _, _, rfl, ⟨Al0, cl0, Cl0, rfl, Hl0, rfl, rfl⟩, hI⟩)
  · replace hc := ne_of_beq_false hc
    rw [if_neg hc] at h
    have hc2 := hc
    clear hc
    refine WP.skip ?_
    refine QP.next ?_
    refine WP.pick [0, 1, 2] ?_
    refine WP.seqP [0, 1, 2, 7] (L' := [(0, .slice Al0 l0.length cl0), (1, .int .i64 a1), (2, .int .i64 a2), (7, .int .i64 (l0.length : Int))]) (by kernel_rfl) ?_
    refine WP.seq ?_
    refine WP.any (N := 8) (S := [⟨some 20, [0], []⟩, ⟨some 21, [1], []⟩, ⟨some 22, [20, 21], [0, 1]⟩, ⟨some 23, [0], []⟩, ⟨some 24, [2], []⟩, ⟨some 25, [23, 24], [3, 4]⟩, ⟨some 26, [22, 25], [2, 5]⟩, ⟨some 0, [26], [0, 1, 2, 3, 4, 5, 6]⟩]) (kw := 6) (G0 := G) (Γ0 := Cl0 :: Γ) mo (by kernel_rfl) (fun hS => ?_)
    refine WA.pure [0, 1, 3, 4] [0, 7, 20, 21, 23, 24] (m := 4) (b' := 27) (L' := [(0, .slice Al0 l0.length cl0), (7, .int .i64 (l0.length : Int)), (20, .slice Al0 l0.length cl0), (21, .int .i64 a1), (23, .slice Al0 l0.length cl0), (24, .int .i64 a2)]) (by kernel_rfl) (NoPanic.then (NoPanic.body)) Under.refl hS (by kernel_rfl) ?_
    by_cases hb3 : 0 ≤ a1 ∧ a1 ≤ (l0.length : Int)
    case neg => rw [if_neg hb3] at h; cases h
    rw [if_pos hb3] at h
    refine WA.tellD [6] (i := 2) (m := 3) (b' := 31) (by kernel_rfl) (NoPanic.then (NoPanic.body)) Under.refl hS (by kernel_rfl) (op := .slice 87 (.tmp 20) none (some (.tmp 21)) none) (ty := 87) (d := some 22) (g := none) (by kernel_rfl) (by kernel_rfl) (by kernel_rfl) (TellsW.tells (Ow.sliceT Hl0 (l := 0) (h := a1) (by kernel_rfl) rfl ⟨.i64, by kernel_rfl⟩ rfl hb3.1 hb3.2 sl87)) ?_
    have Ho4 := Hl0.cut a1.toNat
    by_cases hb5 : 0 ≤ a2 ∧ a2 ≤ (l0.length : Int)
    case neg => rw [if_neg hb5] at h; cases h
    rw [if_pos hb5] at h
    refine WA.tellD [6] (i := 5) (m := 2) (b' := 63) (by kernel_rfl) (NoPanic.then (NoPanic.body)) Under.refl hS (by kernel_rfl) (op := .slice 87 (.tmp 23) (some (.tmp 24)) none none) (ty := 87) (d := some 25) (g := none) (by kernel_rfl) (by kernel_rfl) (by kernel_rfl) (TellsW.tells (Ow.suffixT Hl0 (k := .i64) (l := a2) (by kernel_rfl) (by kernel_rfl) hb5.1 hb5.2 sl87)) ?_
    by_cases hb6 : a1.toNat ≤ a2.toNat ∧ a2.toNat ≤ l0.length
    case neg => rw [if_neg hb6] at h; cases h
    rw [if_pos hb6] at h
    refine WA.opK (i := 6) (kw' := 8) (m := 1) (b' := 127) (by kernel_rfl) rfl hS (by kernel_rfl) (op := .call { callee := (.builtin .append), args := #[(.tmp 22), (.tmp 25)], argTypes := #[87, 87] }) (ty := 87) (d := some 26) (g := none) (by kernel_rfl) (by kernel_rfl) (by kernel_rfl) (Ow.moveT Hl0 (i := 0) rfl (p := a1.toNat) (q := a2.toNat) hb6.1 hb6.2 (by kernel_rfl) (by kernel_rfl) sl87 nt87) ?_
    rintro _ _ _ ⟨rfl, CN7, rfl, HN7, rfl⟩
    refine ⟨_, _, Under.refl, ?_⟩
    refine WA.pure [7] [0, 7] (m := 0) (b' := 255) (L' := [(0, .slice Al0 (l0.take a1.toNat ++ l0.drop a2.toNat).length cl0), (7, .int .i64 (l0.length : Int))]) (by kernel_rfl) (NoPanic.then (NoPanic.body)) Under.refl hS (by kernel_rfl) ?_
    refine WA.done hS (by kernel_rfl) ?_
    refine QP.pick [0, 7] ?_
    refine QP.next ?_
    obtain ⟨v8, hv9, h⟩ := Option.bind_eq_some_iff.1 h
    replace hv9 := Option.some.inj hv9
    have Hn10 := HN7
    rw [hv9] at Hn10
    refine WP.reput 0 (v := .slice Al0 (l0.take a1.toNat ++ l0.drop a2.toNat).length cl0) (v' := .slice Al0 v8.length cl0) (by kernel_rfl) (by subst hv9; rfl) ?_
    refine WP.pick [0, 7] ?_
    refine WP.seqR ?_
    refine WL.pure 0 4 [0, 27, 29, 30] (L' := [(0, .slice Al0 v8.length cl0), (27, .slice Al0 v8.length cl0), (29, .int .i64 (v8.length : Int)), (30, .int .i64 (l0.length : Int))]) (by kernel_rfl) (by decide) ?_
    by_cases hb11 : (v8.length : Int) ≤ (l0.length : Int) ∧ (l0.length : Int) ≤ (l0.length : Int)
    case neg => rw [if_neg hb11] at h; cases h
    rw [if_pos hb11] at h
    refine WL.tell (op := .slice 87 (.tmp 27) (some (.tmp 29)) (some (.tmp 30)) none) (ty := 87) (d := some 31) (g := none) (by kernel_rfl) (by kernel_rfl) (by kernel_rfl) (TellsW.tells (Ow.tailT Hn10 (k := .i64) (k' := .i64) (h := (l0.length : Int)) (by kernel_rfl) (by kernel_rfl) (by kernel_rfl) hb11.1 (Int.le_trans hb11.2 (Int.ofNat_le.2 Hl0.1)) sl87)) ?_
    have hmN12 : v8.length + ((l0.length : Int).toNat - v8.length) ≤ cl0 := by have := Hl0.1; have := hb11; omega
    refine WL.op (op := .call { callee := (.builtin .clear), args := #[(.tmp 31)], argTypes := #[87] }) (ty := 0) (d := none) (g := none) (by kernel_rfl) (by kernel_rfl) (by kernel_rfl) (Ow.clearTail Hn10 (i := 0) rfl hmN12 (by kernel_rfl) sl87 (zv := .agg #[.int .i64 0, .slice none 0 0, .bool false]) (by kernel_rfl) rfl rfl) ?_
    rintro _ _ _ ⟨rfl, rfl, CN12, HN12, rfl⟩
    refine WL.restQ 6 [0] (L' := [(0, .slice Al0 v8.length cl0)]) (by kernel_rfl) ?_
    refine WP.seqP [6] (L' := [(6, .slice Al0 v8.length cl0)]) (by kernel_rfl) ?_
    refine WP.ret ?_
    obtain rfl := Option.some.inj h
    exact QP.returned [6] [.slice Al0 v8.length cl0] _ (by kernel_rfl) (by kernel_rfl) (by kernel_rfl) (fun W hI => ⟨_, _, _, rfl, ⟨Al0, cl0, CN12, rfl, HN12, rfl, rfl⟩, hI⟩)
theorem bag_letter_one (l : List (Raw 3)) (j : Int) (h0 : 0 ≤ j) (h1 : j < l.length) (h2 : j < 1073741824) : bag_letter l j (IntKind.i64.wrap (j + 1)) = some (l.eraseIdx j.toNat) := by
  obtain ⟨n, rfl⟩ := Int.eq_ofNat_of_zero_le h0
  have e : IntKind.i64.wrap ((n : Int) + 1) = ((n + 1 : Nat) : Int) := by rw [IntKind.wrap_i64]; omega
  have h1 : n < l.length := by omega
  have e2 : l.take n ++ l.drop (n + 1) = l.eraseIdx n := (List.eraseIdx_eq_take_drop_succ _ _).symm
  have e3 : (l.eraseIdx n).length = l.length - 1 := by rw [List.length_eraseIdx, if_pos h1]
  unfold bag_letter
  simp only [e, Int.toNat_natCast, e2, e3]
  repeat' (first | rw [if_pos (by omega)] | rw [if_neg (by omega)] | rw [Option.bind_some] | rfl)

/-! ### (*grapevine/bag.Bag).Take: function 44 -/
def bag_Bag_Take (a0 : T89) (a1 : Int) : Option (Int × (List Int) × Bool × T89) := ((bag_Bag_at a0 a1).bind fun t1 => (if t1 < 0 then some (0, ([] : List Int), false, a0) else (if 0 ≤ t1 ∧ t1 < (a0.f1.length : Int) then (if 0 ≤ t1 ∧ t1 < (a0.f1.length : Int) ∧ t1 < 1073741824 then some ((a0.f1.getD t1.toNat z94).f0, (a0.f1.getD t1.toNat z94).f1, true, (⟨a0.f0, (a0.f1.eraseIdx t1.toNat)⟩ : T89)) else none) else none)))
set_option maxHeartbeats 4000000 in
theorem bag_Bag_Take_calls {B : World} {G : GMap} {Γ : List Chunk} {W : World} (a0 : T89) (a1 : Int) (b0 : Nat) (Aa0_f1 : Option Addr) (ca0_f1 : Nat) (Ca0_f1 : Chunk) (Ha0_f1 : Dp d94 G Aa0_f1 ca0_f1 a0.f1 Ca0_f1) (r : Int × (List Int) × Bool × T89) (h : bag_Bag_Take a0 a1 = some r) (hI : Inv B G ([(b0, .cells #[.int .i64 a0.f0, .slice Aa0_f1 a0.f1.length ca0_f1] 89 (0, 0))] :: Ca0_f1 :: Γ) W) :
    Calls Try.prog 44 [.pointer (some ⟨b0, 0, none⟩), .int .i64 a1].toArray W (Ret B (fun v G' Γ' => ∃ (AR1 : Option Addr), ∃ (cR1 : Nat), ∃ (CR1 : Chunk), ∃ (ARp0 : Option Addr), ∃ (cRp0 : Nat), ∃ (CRp0 : Chunk), v = .tuple #[.int .i64 r.1, .slice AR1 r.2.1.length cR1, .bool r.2.2.1] ∧ Ow (kInt .u8) G' AR1 cR1 r.2.1 CR1 ∧ Dp d94 G' ARp0 cRp0 r.2.2.2.f1 CRp0 ∧ G = G' ∧ CR1 :: [(b0, .cells #[.int .i64 r.2.2.2.f0, .slice ARp0 r.2.2.2.f1.length cRp0] 89 (0, 0))] :: CRp0 :: Γ = Γ')) := by
  refine calls_WP (Γ := [(b0, .cells #[.int .i64 a0.f0, .slice Aa0_f1 a0.f1.length ca0_f1] 89 (0, 0))] :: Ca0_f1 :: Γ) (G := G) (B := B) Try.func44 rfl (by kernel_rfl) ?_ hI
  clear hI
  unfold bag_Bag_Take at h
  refine WP.seqP [0, 1] (L' := [(0, .pointer (some ⟨b0, 0, none⟩)), (1, .int .i64 a1)]) (by kernel_rfl) ?_
  refine WP.seqR ?_
  refine WL.pure 0 2 [0, 9, 10] (L' := [(0, .pointer (some ⟨b0, 0, none⟩)), (9, .pointer (some ⟨b0, 0, none⟩)), (10, .int .i64 a1)]) (by kernel_rfl) (by decide) ?_
  refine WL.front (i := 1) rfl ?_
  refine WL.front (i := 1) rfl ?_
  rw [Option.bind_eq_some_iff] at h
  obtain ⟨t1, ht2, h⟩ := h
  refine WL.op (op := .call { callee := (.value (.func 60)), args := #[(.tmp 9), (.tmp 10)], argTypes := #[67, 3] }) (ty := 3) (d := some 11) (g := none) (by kernel_rfl) (by kernel_rfl) (by kernel_rfl) (Does.call (f := 60) (args := [.pointer (some ⟨b0, 0, none⟩), .int .i64 a1]) (by kernel_rfl) (fun W hI => (bag_Bag_at_calls a0 a1 b0 Aa0_f1 ca0_f1 Ca0_f1 Ha0_f1 t1 ht2 hI))) ?_
  rintro _ _ _ ⟨rfl, rfl, rfl⟩
  refine WL.restQ 3 [0, 7] (L' := [(0, .pointer (some ⟨b0, 0, none⟩)), (7, .int .i64 t1)]) (by kernel_rfl) ?_
  refine WP.seq ?_
  refine WP.seqP [0, 7, 13] (L' := [(0, .pointer (some ⟨b0, 0, none⟩)), (7, .int .i64 t1), (13, .bool (decide (t1 < 0)))]) (by kernel_rfl) ?_
  refine WP.cond (b := decide (t1 < 0)) (by kernel_rfl) (fun hc => ?_) (fun hc => ?_)
  · replace hc := of_decide_eq_true hc
    rw [if_pos hc] at h
    have hc5 := hc
    clear hc
    refine WP.seqP [4, 5, 6] (L' := [(4, .int .i64 0), (5, .slice none 0 0), (6, .bool false)]) (by kernel_rfl) ?_
    refine WP.ret ?_
    refine QP.thenR ?_
    obtain rfl := Option.some.inj h
    refine QP.addNil ?_
    exact QP.returned [4, 5, 6] [.int .i64 0, .slice none ([] : List Int).length 0, .bool false] _ (by kernel_rfl) (by kernel_rfl) (by kernel_rfl) (fun W hI => ⟨_, _, _, rfl, ⟨none, 0, [], Aa0_f1, ca0_f1, Ca0_f1, rfl, (Ow.nil (kInt .u8) _), Ha0_f1, rfl, rfl⟩, hI⟩)
  · replace hc := of_decide_eq_false hc
    rw [if_neg hc] at h
    have hc5 := hc
    clear hc
    refine WP.skip ?_
    refine QP.next ?_
    refine WP.pick [0, 7] ?_
    refine WP.seqR ?_
    refine WL.pure 0 3 [0, 7, 16] (L' := [(0, .pointer (some ⟨b0, 0, none⟩)), (7, .int .i64 t1), (16, .pointer (some ⟨b0, 1, none⟩))]) (by kernel_rfl) (by decide) ?_
    refine WL.tell (op := .load 87 (.tmp 16)) (ty := 87) (d := some 17) (g := none) (by kernel_rfl) (by kernel_rfl) (by kernel_rfl) (Tells.load_box (i := 0) (b := b0) (o := 1) (agg := false) (by rfl) ag87 (by kernel_rfl) (fun _ => rfl) (Nat.le_of_ble_eq_true rfl) (v := .slice Aa0_f1 a0.f1.length ca0_f1) (by kernel_rfl)) ?_
    refine WL.pure 4 5 [0, 7, 17, 18] (L' := [(0, .pointer (some ⟨b0, 0, none⟩)), (7, .int .i64 t1), (17, .slice Aa0_f1 a0.f1.length ca0_f1), (18, .int .i64 t1)]) (by kernel_rfl) (by decide) ?_
    by_cases hb6 : 0 ≤ t1 ∧ t1 < (a0.f1.length : Int)
    case neg => rw [if_neg hb6] at h; cases h
    rw [if_pos hb6] at h
    refine WL.tell (op := .indexAddr 87 (.tmp 17) (.tmp 18)) (ty := 0) (d := some 19) (g := none) (by kernel_rfl) (by kernel_rfl) (by kernel_rfl) (Tells.indexAddr (A := Aa0_f1) (n := a0.f1.length) (c := ca0_f1) (k := .i64) (j := t1) (by kernel_rfl) (by kernel_rfl) (Ha0_f1.isSome hb6.1 hb6.2) hb6.1 hb6.2 sl87) ?_
    refine WL.front (i := 1) rfl ?_
    refine WL.takeE (dk := d94) Ha0_f1 hb6.2 hb6.1 z94 (fun rse7 C0e7 De7 _ _ hOe7 hle7 hcse7 hre7 hcle7 here7 => ?_)
    obtain ⟨_, _, _, _, rfl, rfl, ⟨rfl, rfl⟩, ⟨_, _, Ce7_1, _, rfl, rfl, ⟨Ae7_1, ce7_1, rfl, He7_1⟩, ⟨rfl, rfl⟩⟩⟩ := hre7
    have Ho8 : Ow (kInt .u8) G Ae7_1 ce7_1 ((a0.f1.getD t1.toNat z94).f1) Ce7_1 := He7_1.mono (G0.le _)
    refine WL.reperm (Γ' := C0e7 :: De7 :: Ce7_1 :: [(b0, .cells #[.int .i64 a0.f0, .slice Aa0_f1 a0.f1.length ca0_f1] 89 (0, 0))] :: Γ) (by simp) ?_
    refine WL.tell (op := .load 94 (.tmp 19)) (ty := 94) (d := some 20) (g := none) (by kernel_rfl) (by kernel_rfl) (by kernel_rfl) (Ow.loadRaw hOe7 (i := 0) rfl (agg := true) (off := 0) (sz := 3) hb6.1 hcse7 ag94 (fun h => by cases h) (by decide) (by kernel_rfl) (v := .agg #[.int .i64 ((a0.f1.getD t1.toNat z94).f0), .slice Ae7_1 ((a0.f1.getD t1.toNat z94).f1).length ce7_1, .bool ((a0.f1.getD t1.toNat z94).f2)]) (by kernel_rfl)) ?_
    refine WL.op (op := .alloc 94) (ty := 0) (d := some 8) (g := none) (by kernel_rfl) (by kernel_rfl) (by kernel_rfl) (Does.new (o := .cells #[.int .i64 0, .slice none 0 0, .bool false] 94 (0, 0)) (v := fun r => .pointer (some ⟨r, 0, none⟩)) (fun r => by kernel_rfl)) ?_
    rintro _ _ _ ⟨b9, rfl, rfl, rfl⟩
    refine WL.op (op := .store 94 (.tmp 8) (.tmp 20)) (ty := 0) (d := none) (g := none) (by kernel_rfl) (by kernel_rfl) (by kernel_rfl) (Does.store_box (i := 0) (b := b9) (o := 0) (v := .agg #[.int .i64 ((a0.f1.getD t1.toNat z94).f0), .slice Ae7_1 ((a0.f1.getD t1.toNat z94).f1).length ce7_1, .bool ((a0.f1.getD t1.toNat z94).f2)]) (by rfl) sz94 (by kernel_rfl) (by kernel_rfl) (by kernel_rfl) (Free.zero _) (Nat.le_of_ble_eq_true rfl) (cells' := #[.int .i64 ((a0.f1.getD t1.toNat z94).f0), .slice Ae7_1 ((a0.f1.getD t1.toNat z94).f1).length ce7_1, .bool ((a0.f1.getD t1.toNat z94).f2)]) (by kernel_rfl)) ?_
    rintro _ _ _ ⟨rfl, rfl, rfl⟩
    refine WL.restQ 9 [0, 7, 8] (L' := [(0, .pointer (some ⟨b0, 0, none⟩)), (7, .int .i64 t1), (8, .pointer (some ⟨b9, 0, none⟩))]) (by kernel_rfl) ?_
    refine WP.seqR ?_
    refine WL.pure 0 4 [7, 8, 21, 24] (L' := [(7, .int .i64 t1), (8, .pointer (some ⟨b9, 0, none⟩)), (21, .pointer (some ⟨b0, 0, none⟩)), (24, .pointer (some ⟨b0, 1, none⟩))]) (by kernel_rfl) (by decide) ?_
    refine WL.tell (op := .load 87 (.tmp 24)) (ty := 87) (d := some 25) (g := none) (by kernel_rfl) (by kernel_rfl) (by kernel_rfl) (Tells.load_box (i := 4) (b := b0) (o := 1) (agg := false) (by rfl) ag87 (by kernel_rfl) (fun _ => rfl) (Nat.le_of_ble_eq_true rfl) (v := .slice Aa0_f1 a0.f1.length ca0_f1) (by kernel_rfl)) ?_
    refine WL.pure 5 8 [8, 21, 25, 26, 28] (L' := [(8, .pointer (some ⟨b9, 0, none⟩)), (21, .pointer (some ⟨b0, 0, none⟩)), (25, .slice Aa0_f1 a0.f1.length ca0_f1), (26, .int .i64 t1), (28, .int .i64 (IntKind.i64.wrap (t1 + 1)))]) (by kernel_rfl) (by decide) ?_
    refine WL.front (i := 2) rfl ?_
    refine WL.front (i := 2) rfl ?_
    by_cases hb11 : 0 ≤ t1 ∧ t1 < (a0.f1.length : Int) ∧ t1 < 1073741824
    case neg => rw [if_neg hb11] at h; cases h
    rw [if_pos hb11] at h
    have hdN12 : ∀ W, Inv B G (C0e7 :: De7 :: [(b9, .cells #[.int .i64 ((a0.f1.getD t1.toNat z94).f0), .slice Ae7_1 ((a0.f1.getD t1.toNat z94).f1).length ce7_1, .bool ((a0.f1.getD t1.toNat z94).f2)] 94 (0, 0))] :: Ce7_1 :: [(b0, .cells #[.int .i64 a0.f0, .slice Aa0_f1 a0.f1.length ca0_f1] 89 (0, 0))] :: Γ) W → Calls Try.prog 61 [.slice Aa0_f1 rse7.length ca0_f1, .int .i64 t1, .int .i64 (IntKind.i64.wrap (t1 + 1))].toArray W (Ret B fun v G' Γ' => ∃ A c C, v = .slice A (rse7.eraseIdx t1.toNat).length c ∧ Ow (kRaw 3) G A c (rse7.eraseIdx t1.toNat) C ∧ G = G' ∧ C :: De7 :: [(b9, .cells #[.int .i64 ((a0.f1.getD t1.toNat z94).f0), .slice Ae7_1 ((a0.f1.getD t1.toNat z94).f1).length ce7_1, .bool ((a0.f1.getD t1.toNat z94).f2)] 94 (0, 0))] :: Ce7_1 :: [(b0, .cells #[.int .i64 a0.f0, .slice Aa0_f1 a0.f1.length ca0_f1] 89 (0, 0))] :: Γ = Γ') := fun W hI => (bag_letter_calls rse7 t1 _ Aa0_f1 ca0_f1 C0e7 hOe7 _ (bag_letter_one _ _ hb11.1 (Int.lt_of_lt_of_le hb11.2.1 (Int.le_of_eq (congrArg Int.ofNat hle7.symm))) hb11.2.2) hI).mono fun _ _ hr => by obtain ⟨_, _, _, rfl, ⟨A, c, C, rfl, h2, rfl, rfl⟩, hI⟩ := hr; exact ⟨_, _, _, rfl, ⟨A, c, C, rfl, h2, rfl, rfl⟩, hI⟩
    rw [hle7] at hdN12
    refine WL.op (op := .call { callee := (.value (.func 61)), args := #[(.tmp 25), (.tmp 26), (.tmp 28)], argTypes := #[87, 3, 3] }) (ty := 87) (d := some 29) (g := none) (by kernel_rfl) (by kernel_rfl) (by kernel_rfl) (Does.call (f := 61) (args := [.slice Aa0_f1 a0.f1.length ca0_f1, .int .i64 t1, .int .i64 (IntKind.i64.wrap (t1 + 1))]) (by kernel_rfl) hdN12) ?_
    rintro _ _ _ ⟨AN12, cN12, CN12, rfl, hON12, rfl, rfl⟩
    obtain ⟨C2N12, HN12, hpN12⟩ := here7 _ _ _ hON12
    have hlN12 : (rse7.eraseIdx t1.toNat).length = (a0.f1.eraseIdx t1.toNat).length := by rw [List.length_eraseIdx, List.length_eraseIdx, hle7]
    refine WL.reperm (Γ' := C2N12 :: [(b9, .cells #[.int .i64 ((a0.f1.getD t1.toNat z94).f0), .slice Ae7_1 ((a0.f1.getD t1.toNat z94).f1).length ce7_1, .bool ((a0.f1.getD t1.toNat z94).f2)] 94 (0, 0))] :: Ce7_1 :: [(b0, .cells #[.int .i64 a0.f0, .slice Aa0_f1 a0.f1.length ca0_f1] 89 (0, 0))] :: Γ) (by simp only [List.flatten_cons]; rw [← List.append_assoc]; exact List.Perm.append_right _ hpN12) ?_
    refine WL.reput 29 (v := .slice AN12 (rse7.eraseIdx t1.toNat).length cN12) (v' := .slice AN12 (a0.f1.eraseIdx t1.toNat).length cN12) (by kernel_rfl) (by rw [hlN12]) ?_
    refine WL.pure 9 11 [8, 29, 31] (L' := [(8, .pointer (some ⟨b9, 0, none⟩)), (29, .slice AN12 (a0.f1.eraseIdx t1.toNat).length cN12), (31, .pointer (some ⟨b0, 1, none⟩))]) (by kernel_rfl) (by decide) ?_
    refine WL.op (op := .store 87 (.tmp 31) (.tmp 29)) (ty := 0) (d := none) (g := none) (by kernel_rfl) (by kernel_rfl) (by kernel_rfl) (Does.store_box (i := 3) (b := b0) (o := 1) (v := .slice AN12 (a0.f1.eraseIdx t1.toNat).length cN12) (by rfl) sz87 (by kernel_rfl) (by kernel_rfl) (by kernel_rfl) (Free.zero _) (Nat.le_of_ble_eq_true rfl) (cells' := #[.int .i64 a0.f0, .slice AN12 (a0.f1.eraseIdx t1.toNat).length cN12]) (by kernel_rfl)) ?_
    rintro _ _ _ ⟨rfl, rfl, rfl⟩
    refine WL.restQ 12 [8] (L' := [(8, .pointer (some ⟨b9, 0, none⟩))]) (by kernel_rfl) ?_
    refine WP.seq ?_
    refine WP.any (N := 9) (S := [⟨some 32, [8], []⟩, ⟨some 33, [32], [0]⟩, ⟨some 34, [33], [1]⟩, ⟨some 35, [8], []⟩, ⟨some 36, [35], [3]⟩, ⟨some 37, [36], [4]⟩, ⟨some 4, [34], [0, 1, 2]⟩, ⟨some 5, [37], [0, 1, 2, 3, 4, 5, 6]⟩, ⟨some 6, [], [0, 1, 2, 3, 4, 5, 6, 7]⟩]) (kw := 9) (G0 := G) (Γ0 := C2N12 :: [(b9, .cells #[.int .i64 ((a0.f1.getD t1.toNat z94).f0), .slice Ae7_1 ((a0.f1.getD t1.toNat z94).f1).length ce7_1, .bool ((a0.f1.getD t1.toNat z94).f2)] 94 (0, 0))] :: Ce7_1 :: [(b0, .cells #[.int .i64 a0.f0, .slice AN12 (a0.f1.eraseIdx t1.toNat).length cN12] 89 (0, 0))] :: Γ) mo (by kernel_rfl) (fun hS => ?_)
    refine WA.pure [0, 1, 3, 4] [33, 36] (m := 5) (b' := 27) (L' := [(33, .pointer (some ⟨b9, 0, none⟩)), (36, .pointer (some ⟨b9, 1, none⟩))]) (by kernel_rfl) (NoPanic.then (NoPanic.body)) Under.refl hS (by kernel_rfl) ?_
    refine WA.tellD [] (i := 2) (m := 4) (b' := 31) (by kernel_rfl) (NoPanic.then (NoPanic.body)) Under.refl hS (by kernel_rfl) (op := .load 3 (.tmp 33)) (ty := 3) (d := some 34) (g := none) (by kernel_rfl) (by kernel_rfl) (by kernel_rfl) (Tells.load_box (i := 1) (b := b9) (o := 0) (agg := false) (by rfl) ag3 (by kernel_rfl) (fun _ => rfl) (Nat.le_of_ble_eq_true rfl) (v := .int .i64 ((a0.f1.getD t1.toNat z94).f0)) (by kernel_rfl)) ?_
    refine WA.pure [6] [4, 36] (m := 3) (b' := 95) (L' := [(4, .int .i64 ((a0.f1.getD t1.toNat z94).f0)), (36, .pointer (some ⟨b9, 1, none⟩))]) (by kernel_rfl) (NoPanic.then (NoPanic.body)) Under.refl hS (by kernel_rfl) ?_
    refine WA.tellD [] (i := 5) (m := 2) (b' := 127) (by kernel_rfl) (NoPanic.then (NoPanic.body)) Under.refl hS (by kernel_rfl) (op := .load 70 (.tmp 36)) (ty := 70) (d := some 37) (g := none) (by kernel_rfl) (by kernel_rfl) (by kernel_rfl) (Tells.load_box (i := 1) (b := b9) (o := 1) (agg := false) (by rfl) ag70 (by kernel_rfl) (fun _ => rfl) (Nat.le_of_ble_eq_true rfl) (v := .slice Ae7_1 ((a0.f1.getD t1.toNat z94).f1).length ce7_1) (by kernel_rfl)) ?_
    refine WA.pure [7, 8] [4, 5, 6] (m := 0) (b' := 511) (L' := [(4, .int .i64 ((a0.f1.getD t1.toNat z94).f0)), (5, .slice Ae7_1 ((a0.f1.getD t1.toNat z94).f1).length ce7_1), (6, .bool true)]) (by kernel_rfl) (NoPanic.then (NoPanic.body)) Under.refl hS (by kernel_rfl) ?_
    refine WA.done hS (by kernel_rfl) ?_
    refine QP.pick [4, 5, 6] ?_
    refine QP.next ?_
    refine WP.dropAt 1 ?_
    refine WP.ret ?_
    obtain rfl := Option.some.inj h
    refine QP.front (i := 2) rfl ?_
    refine QP.front (i := 2) rfl ?_
    exact QP.returned [4, 5, 6] [.int .i64 ((a0.f1.getD t1.toNat z94).f0), .slice Ae7_1 ((a0.f1.getD t1.toNat z94).f1).length ce7_1, .bool true] _ (by kernel_rfl) (by kernel_rfl) (by kernel_rfl) (fun W hI => ⟨_, _, _, rfl, ⟨Ae7_1, ce7_1, Ce7_1, AN12, cN12, C2N12, rfl, Ho8, HN12, rfl, rfl⟩, hI⟩)

/-! ### (*grapevine/bag.Bag).Drop: function 45 -/
def bag_Bag_Drop (a0 : T89) (a1 : Int) : Option (Bool × T89) := ((bag_Bag_Take a0 a1).bind fun t1 => some (t1.2.2.1, t1.2.2.2))
set_option maxHeartbeats 4000000 in
theorem bag_Bag_Drop_calls {B : World} {G : GMap} {Γ : List Chunk} {W : World} (a0 : T89) (a1 : Int) (b0 : Nat) (Aa0_f1 : Option Addr) (ca0_f1 : Nat) (Ca0_f1 : Chunk) (Ha0_f1 : Dp d94 G Aa0_f1 ca0_f1 a0.f1 Ca0_f1) (r : Bool × T89) (h : bag_Bag_Drop a0 a1 = some r) (hI : Inv B G ([(b0, .cells #[.int .i64 a0.f0, .slice Aa0_f1 a0.f1.length ca0_f1] 89 (0, 0))] :: Ca0_f1 :: Γ) W) :
    Calls Try.prog 45 [.pointer (some ⟨b0, 0, none⟩), .int .i64 a1].toArray W (Ret B (fun v G' Γ' => ∃ (ARp0 : Option Addr), ∃ (cRp0 : Nat), ∃ (CRp0 : Chunk), v = .bool r.1 ∧ Dp d94 G' ARp0 cRp0 r.2.f1 CRp0 ∧ G = G' ∧ [(b0, .cells #[.int .i64 r.2.f0, .slice ARp0 r.2.f1.length cRp0] 89 (0, 0))] :: CRp0 :: Γ = Γ')) := by
  refine calls_WP (Γ := [(b0, .cells #[.int .i64 a0.f0, .slice Aa0_f1 a0.f1.length ca0_f1] 89 (0, 0))] :: Ca0_f1 :: Γ) (G := G) (B := B) Try.func45 rfl (by kernel_rfl) ?_ hI
  clear hI
  unfold bag_Bag_Drop at h
  refine WP.seqP [0, 1] (L' := [(0, .pointer (some ⟨b0, 0, none⟩)), (1, .int .i64 a1)]) (by kernel_rfl) ?_
  refine WP.seqR ?_
  refine WL.pure 0 2 [9, 10] (L' := [(9, .pointer (some ⟨b0, 0, none⟩)), (10, .int .i64 a1)]) (by kernel_rfl) (by decide) ?_
  refine WL.front (i := 1) rfl ?_
  refine WL.front (i := 1) rfl ?_
  rw [Option.bind_eq_some_iff] at h
  obtain ⟨t1, ht2, h⟩ := h
  refine WL.op (op := .call { callee := (.value (.func 44)), args := #[(.tmp 9), (.tmp 10)], argTypes := #[67, 3] }) (ty := 71) (d := some 11) (g := none) (by kernel_rfl) (by kernel_rfl) (by kernel_rfl) (Does.call (f := 44) (args := [.pointer (some ⟨b0, 0, none⟩), .int .i64 a1]) (by kernel_rfl) (fun W hI => (bag_Bag_Take_calls a0 a1 b0 Aa0_f1 ca0_f1 Ca0_f1 Ha0_f1 t1 ht2 hI))) ?_
  rintro _ _ _ ⟨AR31, cR31, CR31, AR3p0, cR3p0, CR3p0, rfl, HR31, HR3p0, rfl, rfl⟩
  refine WL.restQ 3 [7] (L' := [(7, .bool t1.2.2.1)]) (by kernel_rfl) ?_
  refine WP.dropAt 0 ?_
  refine WP.seqP [4] (L' := [(4, .bool t1.2.2.1)]) (by kernel_rfl) ?_
  refine WP.ret ?_
  obtain rfl := Option.some.inj h
  exact QP.returned [4] [.bool t1.2.2.1] _ (by kernel_rfl) (by kernel_rfl) (by kernel_rfl) (fun W hI => ⟨_, _, _, rfl, ⟨AR3p0, cR3p0, CR3p0, rfl, HR3p0, rfl, rfl⟩, hI⟩)

/-! ### (*grapevine/bag.Bag).Spoil: function 50 -/
def bag_Bag_Spoil (a0 : T89) (a1 : Int) (a2 : Int) (a3 : Int) : Option (Bool × T89) := ((bag_Bag_at a0 a1).bind fun t1 => (if t1 < 0 then some (false, a0) else (if 0 ≤ t1 ∧ t1 < (a0.f1.length : Int) then ((if (a0.f1.getD t1.toNat z94).f2 = true then some true else some ((((a0.f1.getD t1.toNat z94).f1).length : Int) == 0)).bind fun s9 => (if s9 = true then some (false, a0) else (if ¬ (IntKind.u64.wrap (((a0.f1.getD t1.toNat z94).f1).length : Int)) = 0 then (if 0 ≤ (Int.tmod (IntKind.u64.wrap a2) (IntKind.u64.wrap (((a0.f1.getD t1.toNat z94).f1).length : Int))) ∧ (Int.tmod (IntKind.u64.wrap a2) (IntKind.u64.wrap (((a0.f1.getD t1.toNat z94).f1).length : Int))) < (((a0.f1.getD t1.toNat z94).f1).length : Int) then (if 0 ≤ (Int.tmod (IntKind.u64.wrap a2) (IntKind.u64.wrap (((a0.f1.getD t1.toNat z94).f1).length : Int))) ∧ (Int.tmod (IntKind.u64.wrap a2) (IntKind.u64.wrap (((a0.f1.getD t1.toNat z94).f1).length : Int))) < (((a0.f1.getD t1.toNat z94).f1).length : Int) then some (true, (⟨a0.f0, (a0.f1.set t1.toNat (⟨(a0.f1.getD t1.toNat z94).f0, (((a0.f1.getD t1.toNat z94).f1).set (Int.tmod (IntKind.u64.wrap a2) (IntKind.u64.wrap (((a0.f1.getD t1.toNat z94).f1).length : Int))).toNat (Go.bits .xor .u8 (((a0.f1.getD t1.toNat z94).f1).getD (Int.tmod (IntKind.u64.wrap a2) (IntKind.u64.wrap (((a0.f1.getD t1.toNat z94).f1).length : Int))).toNat 0) (IntKind.u8.wrap (IntKind.u64.wrap (1 + (Int.tmod (IntKind.u64.wrap a3) 255)))))), true⟩ : T94))⟩ : T89)) else none) else none) else none))) else none)))
set_option maxHeartbeats 4000000 in
theorem bag_Bag_Spoil_calls {B : World} {G : GMap} {Γ : List Chunk} {W : World} (a0 : T89) (a1 : Int) (a2 : Int) (a3 : Int) (b0 : Nat) (Aa0_f1 : Option Addr) (ca0_f1 : Nat) (Ca0_f1 : Chunk) (Ha0_f1 : Dp d94 G Aa0_f1 ca0_f1 a0.f1 Ca0_f1) (r : Bool × T89) (h : bag_Bag_Spoil a0 a1 a2 a3 = some r) (hI : Inv B G ([(b0, .cells #[.int .i64 a0.f0, .slice Aa0_f1 a0.f1.length ca0_f1] 89 (0, 0))] :: Ca0_f1 :: Γ) W) :
    Calls Try.prog 50 [.pointer (some ⟨b0, 0, none⟩), .int .i64 a1, .int .i64 a2, .int .i64 a3].toArray W (Ret B (fun v G' Γ' => ∃ (ARp0 : Option Addr), ∃ (cRp0 : Nat), ∃ (CRp0 : Chunk), v = .bool r.1 ∧ Dp d94 G' ARp0 cRp0 r.2.f1 CRp0 ∧ G = G' ∧ [(b0, .cells #[.int .i64 r.2.f0, .slice ARp0 r.2.f1.length cRp0] 89 (0, 0))] :: CRp0 :: Γ = Γ')) := by
  refine calls_WP (Γ := [(b0, .cells #[.int .i64 a0.f0, .slice Aa0_f1 a0.f1.length ca0_f1] 89 (0, 0))] :: Ca0_f1 :: Γ) (G := G) (B := B) Try.func50 rfl (by kernel_rfl) ?_ hI
  clear hI
  unfold bag_Bag_Spoil at h
  refine WP.seqP [0, 1, 2, 3] (L' := [(0, .pointer (some ⟨b0, 0, none⟩)), (1, .int .i64 a1), (2, .int .i64 a2), (3, .int .i64 a3)]) (by kernel_rfl) ?_
  refine WP.seqR ?_
  refine WL.pure 0 2 [0, 2, 3, 11, 12] (L' := [(0, .pointer (some ⟨b0, 0, none⟩)), (2, .int .i64 a2), (3, .int .i64 a3), (11, .pointer (some ⟨b0, 0, none⟩)), (12, .int .i64 a1)]) (by kernel_rfl) (by decide) ?_
  refine WL.front (i := 1) rfl ?_
  refine WL.front (i := 1) rfl ?_
  rw [Option.bind_eq_some_iff] at h
  obtain ⟨t1, ht2, h⟩ := h
  refine WL.op (op := .call { callee := (.value (.func 60)), args := #[(.tmp 11), (.tmp 12)], argTypes := #[67, 3] }) (ty := 3) (d := some 13) (g := none) (by kernel_rfl) (by kernel_rfl) (by kernel_rfl) (Does.call (f := 60) (args := [.pointer (some ⟨b0, 0, none⟩), .int .i64 a1]) (by kernel_rfl) (fun W hI => (bag_Bag_at_calls a0 a1 b0 Aa0_f1 ca0_f1 Ca0_f1 Ha0_f1 t1 ht2 hI))) ?_
  rintro _ _ _ ⟨rfl, rfl, rfl⟩
  refine WL.restQ 3 [0, 2, 3, 9] (L' := [(0, .pointer (some ⟨b0, 0, none⟩)), (2, .int .i64 a2), (3, .int .i64 a3), (9, .int .i64 t1)]) (by kernel_rfl) ?_
  refine WP.seq ?_
  refine WP.seqP [0, 2, 3, 9, 15] (L' := [(0, .pointer (some ⟨b0, 0, none⟩)), (2, .int .i64 a2), (3, .int .i64 a3), (9, .int .i64 t1), (15, .bool (decide (t1 < 0)))]) (by kernel_rfl) ?_
  refine WP.cond (b := decide (t1 < 0)) (by kernel_rfl) (fun hc => ?_) (fun hc => ?_)
  · replace hc := of_decide_eq_true hc
    rw [if_pos hc] at h
    have hc5 := hc
    clear hc
    refine WP.seqP [8] (L' := [(8, .bool false)]) (by kernel_rfl) ?_
    refine WP.ret ?_
    refine QP.thenR ?_
    obtain rfl := Option.some.inj h
    exact QP.returned [8] [.bool false] _ (by kernel_rfl) (by kernel_rfl) (by kernel_rfl) (fun W hI => ⟨_, _, _, rfl, ⟨Aa0_f1, ca0_f1, Ca0_f1, rfl, Ha0_f1, rfl, rfl⟩, hI⟩)
  · replace hc := of_decide_eq_false hc
    rw [if_neg hc] at h
    have hc5 := hc
    clear hc
    refine WP.skip ?_
    refine QP.next ?_
    refine WP.pick [0, 2, 3, 9] ?_
    refine WP.seqR ?_
    refine WL.pure 0 3 [2, 3, 9, 18] (L' := [(2, .int .i64 a2), (3, .int .i64 a3), (9, .int .i64 t1), (18, .pointer (some ⟨b0, 1, none⟩))]) (by kernel_rfl) (by decide) ?_
    refine WL.tell (op := .load 87 (.tmp 18)) (ty := 87) (d := some 19) (g := none) (by kernel_rfl) (by kernel_rfl) (by kernel_rfl) (Tells.load_box (i := 0) (b := b0) (o := 1) (agg := false) (by rfl) ag87 (by kernel_rfl) (fun _ => rfl) (Nat.le_of_ble_eq_true rfl) (v := .slice Aa0_f1 a0.f1.length ca0_f1) (by kernel_rfl)) ?_
    refine WL.pure 4 5 [2, 3, 19, 20] (L' := [(2, .int .i64 a2), (3, .int .i64 a3), (19, .slice Aa0_f1 a0.f1.length ca0_f1), (20, .int .i64 t1)]) (by kernel_rfl) (by decide) ?_
    by_cases hb6 : 0 ≤ t1 ∧ t1 < (a0.f1.length : Int)
    case neg => rw [if_neg hb6] at h; cases h
    rw [if_pos hb6] at h
    refine WL.tell (op := .indexAddr 87 (.tmp 19) (.tmp 20)) (ty := 0) (d := some 21) (g := none) (by kernel_rfl) (by kernel_rfl) (by kernel_rfl) (Tells.indexAddr (A := Aa0_f1) (n := a0.f1.length) (c := ca0_f1) (k := .i64) (j := t1) (by kernel_rfl) (by kernel_rfl) (Ha0_f1.isSome hb6.1 hb6.2) hb6.1 hb6.2 sl87) ?_
    refine WL.restQ 6 [2, 3, 10] (L' := [(2, .int .i64 a2), (3, .int .i64 a3), (10, .pointer (Aa0_f1.map (·.add (t1.toNat * 3))))]) (by kernel_rfl) ?_
    refine WP.seq ?_
    refine WP.front (i := 1) rfl ?_
    refine WP.takeE (dk := d94) Ha0_f1 hb6.2 hb6.1 z94 (fun rse7 C0e7 De7 _ _ hOe7 hle7 hcse7 hre7 hcle7 here7 => ?_)
    obtain ⟨_, _, _, _, rfl, rfl, ⟨rfl, rfl⟩, ⟨_, _, Ce7_1, _, rfl, rfl, ⟨Ae7_1, ce7_1, rfl, He7_1⟩, ⟨rfl, rfl⟩⟩⟩ := hre7
    have Ho8 : Ow (kInt .u8) G Ae7_1 ce7_1 ((a0.f1.getD t1.toNat z94).f1) Ce7_1 := He7_1.mono (G0.le _)
    refine WP.reperm (Γ' := C0e7 :: De7 :: Ce7_1 :: [(b0, .cells #[.int .i64 a0.f0, .slice Aa0_f1 a0.f1.length ca0_f1] 89 (0, 0))] :: Γ) (by simp) ?_
    rw [Option.bind_eq_some_iff] at h
    obtain ⟨os9, h, hk10⟩ := h
    refine WP.cut (fun L' G' Γ' => ∃ s9 : Bool, s9 = os9 ∧ L' = [(2, .int .i64 a2), (3, .int .i64 a3), (10, .pointer (Aa0_f1.map (·.add (t1.toNat * 3)))), (34, .bool s9)] ∧ G = G' ∧ C0e7 :: De7 :: Ce7_1 :: [(b0, .cells #[.int .i64 a0.f0, .slice Aa0_f1 a0.f1.length ca0_f1] 89 (0, 0))] :: Γ = Γ') ?_ ?_
    · clear hk10
      refine WP.region ?_
      refine WL.pure 0 1 [2, 3, 10, 22] (L' := [(2, .int .i64 a2), (3, .int .i64 a3), (10, .pointer (Aa0_f1.map (·.add (t1.toNat * 3)))), (22, .pointer (Aa0_f1.map (·.add (t1.toNat * 3))))]) (by kernel_rfl) (by decide) ?_
      refine WL.tell (op := .nilCheck (.tmp 22)) (ty := 0) (d := some 23) (g := none) (by kernel_rfl) (by kernel_rfl) (by kernel_rfl) (Tells.nilE (A := Aa0_f1) (f := (·.add (t1.toNat * 3))) (by kernel_rfl) ((Ow.isSome1 hOe7 hle7) hb6.1 hb6.2)) ?_
      refine WL.tell (op := .fieldAddr 94 (.tmp 23) 1) (ty := 0) (d := some 24) (g := none) (by kernel_rfl) (by kernel_rfl) (by kernel_rfl) (Tells.fieldElem (m := t1.toNat * 3) (A := Aa0_f1) (by kernel_rfl) ((Ow.isSome1 hOe7 hle7) hb6.1 hb6.2) fi94_1) ?_
      refine WL.tell (op := .load 4 (.tmp 24)) (ty := 4) (d := some 25) (g := none) (by kernel_rfl) (by kernel_rfl) (by kernel_rfl) (Ow.loadRaw hOe7 (i := 0) rfl (agg := false) (off := 2) (sz := 1) hb6.1 hcse7 ag4 (fun _ => rfl) (by decide) (by kernel_rfl) (v := .bool ((a0.f1.getD t1.toNat z94).f2)) (by kernel_rfl)) ?_
      refine WL.pure 4 5 [2, 3, 10, 26] (L' := [(2, .int .i64 a2), (3, .int .i64 a3), (10, .pointer (Aa0_f1.map (·.add (t1.toNat * 3)))), (26, .bool ((a0.f1.getD t1.toNat z94).f2))]) (by kernel_rfl) (by decide) ?_
      refine WL.split 26 (b := (a0.f1.getD t1.toNat z94).f2) (by kernel_rfl) (fun hc => ?_) (fun hc => ?_)
      · replace hc := hc
        rw [if_pos hc] at h
        have hc11 := hc
        clear hc
        refine WL.rest 5 [2, 3, 10, 34] (L' := [(2, .int .i64 a2), (3, .int .i64 a3), (10, .pointer (Aa0_f1.map (·.add (t1.toNat * 3)))), (34, .bool true)]) (by kernel_rfl) ?_
        refine QP.pick [2, 3, 10, 34] ?_
        exact QP.meet ⟨_, Option.some.inj h, rfl, rfl, rfl⟩
      · replace hc := (Bool.eq_false_iff.1 hc)
        rw [if_neg hc] at h
        have hc11 := hc
        clear hc
        refine WL.pure 5 6 [2, 3, 10, 26, 27] (L' := [(2, .int .i64 a2), (3, .int .i64 a3), (10, .pointer (Aa0_f1.map (·.add (t1.toNat * 3)))), (26, .bool false), (27, .pointer (Aa0_f1.map (·.add (t1.toNat * 3))))]) (by kernel_rfl) (by decide) ?_
        refine WL.tell (op := .nilCheck (.tmp 27)) (ty := 0) (d := some 28) (g := some (4, false)) (by kernel_rfl) (by kernel_rfl) (by kernel_rfl) (Tells.nilE (A := Aa0_f1) (f := (·.add (t1.toNat * 3))) (by kernel_rfl) ((Ow.isSome1 hOe7 hle7) hb6.1 hb6.2)) ?_
        refine WL.tell (op := .fieldAddr 94 (.tmp 28) 0) (ty := 0) (d := some 29) (g := some (4, false)) (by kernel_rfl) (by kernel_rfl) (by kernel_rfl) (Tells.fieldElem (m := t1.toNat * 3) (A := Aa0_f1) (by kernel_rfl) ((Ow.isSome1 hOe7 hle7) hb6.1 hb6.2) fi94_0) ?_
        refine WL.tell (op := .fieldAddr 92 (.tmp 29) 1) (ty := 0) (d := some 30) (g := some (4, false)) (by kernel_rfl) (by kernel_rfl) (by kernel_rfl) (Tells.fieldElem (m := t1.toNat * 3 + 0) (A := Aa0_f1) (by kernel_rfl) ((Ow.isSome1 hOe7 hle7) hb6.1 hb6.2) fi92_1) ?_
        refine WL.tell (op := .load 70 (.tmp 30)) (ty := 70) (d := some 31) (g := some (4, false)) (by kernel_rfl) (by kernel_rfl) (by kernel_rfl) (Ow.loadRaw hOe7 (i := 0) rfl (agg := false) (off := 1) (sz := 1) hb6.1 hcse7 ag70 (fun _ => rfl) (by decide) (by kernel_rfl) (v := .slice Ae7_1 ((a0.f1.getD t1.toNat z94).f1).length ce7_1) (by kernel_rfl)) ?_
        refine WL.rest 10 [2, 3, 10, 34] (L' := [(2, .int .i64 a2), (3, .int .i64 a3), (10, .pointer (Aa0_f1.map (·.add (t1.toNat * 3)))), (34, .bool ((((a0.f1.getD t1.toNat z94).f1).length : Int) == 0))]) (by kernel_rfl) ?_
        refine QP.pick [2, 3, 10, 34] ?_
        exact QP.meet ⟨_, Option.some.inj h, rfl, rfl, rfl⟩
    · rintro _ _ _ ⟨s9, rfl, rfl, rfl, rfl⟩
      clear h
      replace h := hk10
      refine WP.cond (b := s9) (by kernel_rfl) (fun hc => ?_) (fun hc => ?_)
      · replace hc := hc
        rw [if_pos hc] at h
        have hc12 := hc
        clear hc
        refine WP.seqP [8] (L' := [(8, .bool false)]) (by kernel_rfl) ?_
        refine WP.ret ?_
        refine QP.thenR ?_
        refine QP.front (i := 2) rfl ?_
        refine QP.front (i := 2) rfl ?_
        refine QP.front (i := 2) rfl ?_
        refine QP.putD hOe7 hcle7 hcse7 (e := (a0.f1.getD t1.toNat z94)) [Ce7_1] (show d94.rel (a0.f1.getD t1.toNat z94) [.int .i64 ((a0.f1.getD t1.toNat z94).f0), .slice Ae7_1 ((a0.f1.getD t1.toNat z94).f1).length ce7_1, .bool ((a0.f1.getD t1.toNat z94).f2)] (List.flatten [Ce7_1]) from by rw [show List.flatten [Ce7_1] = (([] : Chunk) ++ (Ce7_1 ++ ([] : Chunk))) by simp]; exact ⟨[.int .i64 ((a0.f1.getD t1.toNat z94).f0)], _, ([] : Chunk), (Ce7_1 ++ ([] : Chunk)), rfl, rfl, ⟨rfl, rfl⟩, ⟨[.slice Ae7_1 ((a0.f1.getD t1.toNat z94).f1).length ce7_1], _, Ce7_1, ([] : Chunk), rfl, rfl, ⟨Ae7_1, ce7_1, rfl, (Ho8.flat (kInt_flat _))⟩, ⟨rfl, rfl⟩⟩⟩) (fun C13 Ho14 => ?_)
        rw [getD_set_self] at Ho14
        obtain rfl := Option.some.inj h
        refine QP.front (i := 1) rfl ?_
        exact QP.returned [8] [.bool false] _ (by kernel_rfl) (by kernel_rfl) (by kernel_rfl) (fun W hI => ⟨_, _, _, rfl, ⟨Aa0_f1, ca0_f1, C13, rfl, Ho14, rfl, rfl⟩, hI⟩)
      · replace hc := (Bool.eq_false_iff.1 hc)
        rw [if_neg hc] at h
        have hc12 := hc
        clear hc
        refine WP.skip ?_
        refine QP.next ?_
        refine WP.pick [2, 3, 10] ?_
        refine WP.seq ?_
        refine WP.any (N := 25) (S := [⟨some 35, [10], []⟩, ⟨some 36, [35], [0]⟩, ⟨some 37, [36], [1]⟩, ⟨some 38, [37], [2]⟩, ⟨some 39, [38], [3]⟩, ⟨some 40, [2], []⟩, ⟨some 41, [40], [5]⟩, ⟨some 42, [10], []⟩, ⟨some 43, [42], [7]⟩, ⟨some 44, [43], [8]⟩, ⟨some 45, [44], [9]⟩, ⟨some 46, [45], [10]⟩, ⟨some 47, [46], [11]⟩, ⟨some 48, [47], [12]⟩, ⟨some 49, [41, 48], [6, 13]⟩, ⟨some 50, [39, 49], [4, 14]⟩, ⟨some 51, [50], [15]⟩, ⟨some 52, [3], []⟩, ⟨some 53, [52], [17]⟩, ⟨some 54, [53], [18]⟩, ⟨some 55, [54], [19]⟩, ⟨some 56, [55], [20]⟩, ⟨some 57, [51, 56], [16, 21]⟩, ⟨some 58, [39, 49], [0, 1, 2, 3, 4, 5, 6, 7, 8, 9, 10, 11, 12, 13, 14, 15, 16, 17, 18, 19, 20, 21, 22]⟩, ⟨none, [57, 58], [0, 1, 2, 3, 4, 5, 6, 7, 8, 9, 10, 11, 12, 13, 14, 15, 16, 17, 18, 19, 20, 21, 22, 23]⟩]) (kw := 24) (G0 := G) (Γ0 := C0e7 :: De7 :: Ce7_1 :: [(b0, .cells #[.int .i64 a0.f0, .slice Aa0_f1 a0.f1.length ca0_f1] 89 (0, 0))] :: Γ) mo (by kernel_rfl) (fun hS => ?_)
        refine WA.pure [0, 5, 6, 7, 17, 18, 19, 20, 21] [10, 35, 41, 42, 56] (m := 16) (b' := 4063457) (L' := [(10, .pointer (Aa0_f1.map (·.add (t1.toNat * 3)))), (35, .pointer (Aa0_f1.map (·.add (t1.toNat * 3)))), (41, .int .u64 (IntKind.u64.wrap a2)), (42, .pointer (Aa0_f1.map (·.add (t1.toNat * 3)))), (56, .int .u8 (IntKind.u8.wrap (IntKind.u64.wrap (1 + (Int.tmod (IntKind.u64.wrap a3) 255)))))]) (by kernel_rfl) (NoPanic.then (NoPanic.body)) Under.refl hS (by kernel_rfl) ?_
        refine WA.tellD [24] (i := 1) (m := 15) (b' := 4063459) (by kernel_rfl) (NoPanic.then (NoPanic.body)) Under.refl hS (by kernel_rfl) (op := .nilCheck (.tmp 35)) (ty := 0) (d := some 36) (g := none) (by kernel_rfl) (by kernel_rfl) (by kernel_rfl) (Tells.nilE (A := Aa0_f1) (f := (·.add (t1.toNat * 3))) (by kernel_rfl) ((Ow.isSome1 hOe7 hle7) hb6.1 hb6.2)) ?_
        refine WA.tellD [24] (i := 2) (m := 14) (b' := 4063463) (by kernel_rfl) (NoPanic.then (NoPanic.body)) Under.refl hS (by kernel_rfl) (op := .fieldAddr 94 (.tmp 36) 0) (ty := 0) (d := some 37) (g := none) (by kernel_rfl) (by kernel_rfl) (by kernel_rfl) (Tells.fieldElem (m := t1.toNat * 3) (A := Aa0_f1) (by kernel_rfl) ((Ow.isSome1 hOe7 hle7) hb6.1 hb6.2) fi94_0) ?_
        refine WA.tellD [24] (i := 3) (m := 13) (b' := 4063471) (by kernel_rfl) (NoPanic.then (NoPanic.body)) Under.refl hS (by kernel_rfl) (op := .fieldAddr 92 (.tmp 37) 1) (ty := 0) (d := some 38) (g := none) (by kernel_rfl) (by kernel_rfl) (by kernel_rfl) (Tells.fieldElem (m := t1.toNat * 3 + 0) (A := Aa0_f1) (by kernel_rfl) ((Ow.isSome1 hOe7 hle7) hb6.1 hb6.2) fi92_1) ?_
        refine WA.tellD [24] (i := 4) (m := 12) (b' := 4063487) (by kernel_rfl) (NoPanic.then (NoPanic.body)) Under.refl hS (by kernel_rfl) (op := .load 70 (.tmp 38)) (ty := 70) (d := some 39) (g := none) (by kernel_rfl) (by kernel_rfl) (by kernel_rfl) (Ow.loadRaw hOe7 (i := 0) rfl (agg := false) (off := 1) (sz := 1) hb6.1 hcse7 ag70 (fun _ => rfl) (by decide) (by kernel_rfl) (v := .slice Ae7_1 ((a0.f1.getD t1.toNat z94).f1).length ce7_1) (by kernel_rfl)) ?_
        refine WA.tellD [24] (i := 8) (m := 11) (b' := 4063743) (by kernel_rfl) (NoPanic.then (NoPanic.body)) Under.refl hS (by kernel_rfl) (op := .nilCheck (.tmp 42)) (ty := 0) (d := some 43) (g := none) (by kernel_rfl) (by kernel_rfl) (by kernel_rfl) (Tells.nilE (A := Aa0_f1) (f := (·.add (t1.toNat * 3))) (by kernel_rfl) ((Ow.isSome1 hOe7 hle7) hb6.1 hb6.2)) ?_
        refine WA.tellD [24] (i := 9) (m := 10) (b' := 4064255) (by kernel_rfl) (NoPanic.then (NoPanic.body)) Under.refl hS (by kernel_rfl) (op := .fieldAddr 94 (.tmp 43) 0) (ty := 0) (d := some 44) (g := none) (by kernel_rfl) (by kernel_rfl) (by kernel_rfl) (Tells.fieldElem (m := t1.toNat * 3) (A := Aa0_f1) (by kernel_rfl) ((Ow.isSome1 hOe7 hle7) hb6.1 hb6.2) fi94_0) ?_
        refine WA.tellD [24] (i := 10) (m := 9) (b' := 4065279) (by kernel_rfl) (NoPanic.then (NoPanic.body)) Under.refl hS (by kernel_rfl) (op := .fieldAddr 92 (.tmp 44) 1) (ty := 0) (d := some 45) (g := none) (by kernel_rfl) (by kernel_rfl) (by kernel_rfl) (Tells.fieldElem (m := t1.toNat * 3 + 0) (A := Aa0_f1) (by kernel_rfl) ((Ow.isSome1 hOe7 hle7) hb6.1 hb6.2) fi92_1) ?_
        refine WA.tellD [24] (i := 11) (m := 8) (b' := 4067327) (by kernel_rfl) (NoPanic.then (NoPanic.body)) Under.refl hS (by kernel_rfl) (op := .load 70 (.tmp 45)) (ty := 70) (d := some 46) (g := none) (by kernel_rfl) (by kernel_rfl) (by kernel_rfl) (Ow.loadRaw hOe7 (i := 0) rfl (agg := false) (off := 1) (sz := 1) hb6.1 hcse7 ag70 (fun _ => rfl) (by decide) (by kernel_rfl) (v := .slice Ae7_1 ((a0.f1.getD t1.toNat z94).f1).length ce7_1) (by kernel_rfl)) ?_
        refine WA.pure [12, 13] [10, 39, 41, 48, 56] (m := 6) (b' := 4079615) (L' := [(10, .pointer (Aa0_f1.map (·.add (t1.toNat * 3)))), (39, .slice Ae7_1 ((a0.f1.getD t1.toNat z94).f1).length ce7_1), (41, .int .u64 (IntKind.u64.wrap a2)), (48, .int .u64 (IntKind.u64.wrap (((a0.f1.getD t1.toNat z94).f1).length : Int))), (56, .int .u8 (IntKind.u8.wrap (IntKind.u64.wrap (1 + (Int.tmod (IntKind.u64.wrap a3) 255)))))]) (by kernel_rfl) (NoPanic.then (NoPanic.body)) Under.refl hS (by kernel_rfl) ?_
        by_cases hb15 : ¬ (IntKind.u64.wrap (((a0.f1.getD t1.toNat z94).f1).length : Int)) = 0
        case neg => rw [if_neg hb15] at h; cases h
        rw [if_pos hb15] at h
        refine WA.tellD [24] (i := 14) (m := 5) (b' := 4095999) (by kernel_rfl) (NoPanic.then (NoPanic.body)) Under.refl hS (by kernel_rfl) (op := .binOp .rem 83 (.tmp 41) (.tmp 48) 83) (ty := 83) (d := some 49) (g := none) (by kernel_rfl) (by kernel_rfl) (by kernel_rfl) (Tells.rem (k := .u64) (a := (IntKind.u64.wrap a2)) (b := (IntKind.u64.wrap (((a0.f1.getD t1.toNat z94).f1).length : Int))) (by kernel_rfl) (by kernel_rfl) hb15) ?_
        by_cases hb16 : 0 ≤ (Int.tmod (IntKind.u64.wrap a2) (IntKind.u64.wrap (((a0.f1.getD t1.toNat z94).f1).length : Int))) ∧ (Int.tmod (IntKind.u64.wrap a2) (IntKind.u64.wrap (((a0.f1.getD t1.toNat z94).f1).length : Int))) < (((a0.f1.getD t1.toNat z94).f1).length : Int)
        case neg => rw [if_neg hb16] at h; cases h
        rw [if_pos hb16] at h
        refine WA.tellD [24] (i := 15) (m := 4) (b' := 4128767) (by kernel_rfl) (NoPanic.then (NoPanic.body)) Under.refl hS (by kernel_rfl) (op := .indexAddr 70 (.tmp 39) (.tmp 49)) (ty := 0) (d := some 50) (g := none) (by kernel_rfl) (by kernel_rfl) (by kernel_rfl) (Tells.indexAddr (A := Ae7_1) (n := ((a0.f1.getD t1.toNat z94).f1).length) (c := ce7_1) (k := .u64) (j := (Int.tmod (IntKind.u64.wrap a2) (IntKind.u64.wrap (((a0.f1.getD t1.toNat z94).f1).length : Int)))) (by kernel_rfl) (by kernel_rfl) (Ho8.isSome hb16.1 hb16.2) hb16.1 hb16.2 sl70) ?_
        refine WA.tellDE [24] (i := 16) (m := 3) (b' := 4194303) (by kernel_rfl) (NoPanic.then (NoPanic.body)) Under.refl hS (by kernel_rfl) (op := .load 5 (.tmp 50)) (ty := 5) (d := some 51) (g := none) (by kernel_rfl) (by kernel_rfl) (by kernel_rfl) (Ho8.load (i := 2) rfl (agg := false) hb16.1 hb16.2 0 ag5 (fun _ => rfl) (by kernel_rfl)) ?_
        rintro _ rfl
        refine WA.pure [22] [10, 39, 49, 57] (m := 2) (b' := 8388607) (L' := [(10, .pointer (Aa0_f1.map (·.add (t1.toNat * 3)))), (39, .slice Ae7_1 ((a0.f1.getD t1.toNat z94).f1).length ce7_1), (49, .int .u64 (Int.tmod (IntKind.u64.wrap a2) (IntKind.u64.wrap (((a0.f1.getD t1.toNat z94).f1).length : Int)))), (57, .int .u8 (Go.bits .xor .u8 (((a0.f1.getD t1.toNat z94).f1).getD (Int.tmod (IntKind.u64.wrap a2) (IntKind.u64.wrap (((a0.f1.getD t1.toNat z94).f1).length : Int))).toNat 0) (IntKind.u8.wrap (IntKind.u64.wrap (1 + (Int.tmod (IntKind.u64.wrap a3) 255))))))]) (by kernel_rfl) (NoPanic.then (NoPanic.body)) Under.refl hS (by kernel_rfl) ?_
        by_cases hb17 : 0 ≤ (Int.tmod (IntKind.u64.wrap a2) (IntKind.u64.wrap (((a0.f1.getD t1.toNat z94).f1).length : Int))) ∧ (Int.tmod (IntKind.u64.wrap a2) (IntKind.u64.wrap (((a0.f1.getD t1.toNat z94).f1).length : Int))) < (((a0.f1.getD t1.toNat z94).f1).length : Int)
        case neg => rw [if_neg hb17] at h; cases h
        rw [if_pos hb17] at h
        refine WA.tellD [24] (i := 23) (m := 1) (b' := 16777215) (by kernel_rfl) (NoPanic.then (NoPanic.body)) Under.refl hS (by kernel_rfl) (op := .indexAddr 70 (.tmp 39) (.tmp 49)) (ty := 0) (d := some 58) (g := none) (by kernel_rfl) (by kernel_rfl) (by kernel_rfl) (Tells.indexAddr (A := Ae7_1) (n := ((a0.f1.getD t1.toNat z94).f1).length) (c := ce7_1) (k := .u64) (j := (Int.tmod (IntKind.u64.wrap a2) (IntKind.u64.wrap (((a0.f1.getD t1.toNat z94).f1).length : Int)))) (by kernel_rfl) (by kernel_rfl) (Ho8.isSome hb17.1 hb17.2) hb17.1 hb17.2 sl70) ?_
        refine WA.opK (i := 24) (kw' := 25) (m := 0) (b' := 33554431) (by kernel_rfl) rfl hS (by kernel_rfl) (op := .store 5 (.tmp 58) (.tmp 57)) (ty := 0) (d := none) (g := none) (by kernel_rfl) (by kernel_rfl) (by kernel_rfl) (Ow.store Ho8 (i := 2) rfl hb17.1 hb17.2 (z := (Go.bits .xor .u8 (((a0.f1.getD t1.toNat z94).f1).getD (Int.tmod (IntKind.u64.wrap a2) (IntKind.u64.wrap (((a0.f1.getD t1.toNat z94).f1).length : Int))).toNat 0) (IntKind.u8.wrap (IntKind.u64.wrap (1 + (Int.tmod (IntKind.u64.wrap a3) 255)))))) (v := .int .u8 (Go.bits .xor .u8 (((a0.f1.getD t1.toNat z94).f1).getD (Int.tmod (IntKind.u64.wrap a2) (IntKind.u64.wrap (((a0.f1.getD t1.toNat z94).f1).length : Int))).toNat 0) (IntKind.u8.wrap (IntKind.u64.wrap (1 + (Int.tmod (IntKind.u64.wrap a3) 255)))))) (by kernel_rfl) (by kernel_rfl) sz5 (by exact rfl)) ?_
        rintro _ _ _ ⟨rfl, rfl, C18, Ho19, rfl⟩
        refine ⟨_, _, Under.refl, ?_⟩
        have hcs20 : (rse7[t1.toNat]?).map (·.1) = some [.int .i64 ((a0.f1.getD t1.toNat z94).f0), .slice Ae7_1 (((a0.f1.getD t1.toNat z94).f1).set (Int.tmod (IntKind.u64.wrap a2) (IntKind.u64.wrap (((a0.f1.getD t1.toNat z94).f1).length : Int))).toNat (Go.bits .xor .u8 (((a0.f1.getD t1.toNat z94).f1).getD (Int.tmod (IntKind.u64.wrap a2) (IntKind.u64.wrap (((a0.f1.getD t1.toNat z94).f1).length : Int))).toNat 0) (IntKind.u8.wrap (IntKind.u64.wrap (1 + (Int.tmod (IntKind.u64.wrap a3) 255)))))).length ce7_1, .bool ((a0.f1.getD t1.toNat z94).f2)] := by rw [List.length_set]; exact hcse7
        refine WA.done hS (by kernel_rfl) ?_
        refine QP.pick [10] ?_
        refine QP.next ?_
        refine WP.seqR ?_
        refine WL.pure 0 1 [59] (L' := [(59, .pointer (Aa0_f1.map (·.add (t1.toNat * 3))))]) (by kernel_rfl) (by decide) ?_
        refine WL.tell (op := .nilCheck (.tmp 59)) (ty := 0) (d := some 60) (g := none) (by kernel_rfl) (by kernel_rfl) (by kernel_rfl) (Tells.nilE (A := Aa0_f1) (f := (·.add (t1.toNat * 3))) (by kernel_rfl) ((Ow.isSome1 hOe7 hle7) hb6.1 hb6.2)) ?_
        refine WL.tell (op := .fieldAddr 94 (.tmp 60) 1) (ty := 0) (d := some 61) (g := none) (by kernel_rfl) (by kernel_rfl) (by kernel_rfl) (Tells.fieldElem (m := t1.toNat * 3) (A := Aa0_f1) (by kernel_rfl) ((Ow.isSome1 hOe7 hle7) hb6.1 hb6.2) fi94_1) ?_
        refine WL.op (op := .store 4 (.tmp 61) (.const (.bool true))) (ty := 0) (d := none) (g := none) (by kernel_rfl) (by kernel_rfl) (by kernel_rfl) (Dp.storeF (dk := d94) hOe7 (i := 0) rfl hle7 hcle7 here7 hcs20 (off := 2) (by kernel_rfl) (by kernel_rfl) rfl rfl sz4 (by decide) (cs' := [.int .i64 ((a0.f1.getD t1.toNat z94).f0), .slice Ae7_1 (((a0.f1.getD t1.toNat z94).f1).set (Int.tmod (IntKind.u64.wrap a2) (IntKind.u64.wrap (((a0.f1.getD t1.toNat z94).f1).length : Int))).toNat (Go.bits .xor .u8 (((a0.f1.getD t1.toNat z94).f1).getD (Int.tmod (IntKind.u64.wrap a2) (IntKind.u64.wrap (((a0.f1.getD t1.toNat z94).f1).length : Int))).toNat 0) (IntKind.u8.wrap (IntKind.u64.wrap (1 + (Int.tmod (IntKind.u64.wrap a3) 255)))))).length ce7_1, .bool true]) rfl rfl rfl) ?_
        rintro _ _ _ ⟨rfl, rfl, rse21, C0e21, hOe21, hle21, hcse21, hcle21, here21, rfl⟩
        refine WL.restQ 4 [] (L' := []) (by kernel_rfl) ?_
        refine WP.seqP [8] (L' := [(8, .bool true)]) (by kernel_rfl) ?_
        refine WP.ret ?_
        refine QP.front (i := 2) rfl ?_
        refine QP.front (i := 2) rfl ?_
        refine QP.front (i := 2) rfl ?_
        refine QP.putD hOe21 hcle21 hcse21 (e := (⟨(a0.f1.getD t1.toNat z94).f0, (((a0.f1.getD t1.toNat z94).f1).set (Int.tmod (IntKind.u64.wrap a2) (IntKind.u64.wrap (((a0.f1.getD t1.toNat z94).f1).length : Int))).toNat (Go.bits .xor .u8 (((a0.f1.getD t1.toNat z94).f1).getD (Int.tmod (IntKind.u64.wrap a2) (IntKind.u64.wrap (((a0.f1.getD t1.toNat z94).f1).length : Int))).toNat 0) (IntKind.u8.wrap (IntKind.u64.wrap (1 + (Int.tmod (IntKind.u64.wrap a3) 255)))))), true⟩ : T94)) [C18] (show d94.rel (⟨(a0.f1.getD t1.toNat z94).f0, (((a0.f1.getD t1.toNat z94).f1).set (Int.tmod (IntKind.u64.wrap a2) (IntKind.u64.wrap (((a0.f1.getD t1.toNat z94).f1).length : Int))).toNat (Go.bits .xor .u8 (((a0.f1.getD t1.toNat z94).f1).getD (Int.tmod (IntKind.u64.wrap a2) (IntKind.u64.wrap (((a0.f1.getD t1.toNat z94).f1).length : Int))).toNat 0) (IntKind.u8.wrap (IntKind.u64.wrap (1 + (Int.tmod (IntKind.u64.wrap a3) 255)))))), true⟩ : T94) [.int .i64 ((a0.f1.getD t1.toNat z94).f0), .slice Ae7_1 (((a0.f1.getD t1.toNat z94).f1).set (Int.tmod (IntKind.u64.wrap a2) (IntKind.u64.wrap (((a0.f1.getD t1.toNat z94).f1).length : Int))).toNat (Go.bits .xor .u8 (((a0.f1.getD t1.toNat z94).f1).getD (Int.tmod (IntKind.u64.wrap a2) (IntKind.u64.wrap (((a0.f1.getD t1.toNat z94).f1).length : Int))).toNat 0) (IntKind.u8.wrap (IntKind.u64.wrap (1 + (Int.tmod (IntKind.u64.wrap a3) 255)))))).length ce7_1, .bool true] (List.flatten [C18]) from by rw [show List.flatten [C18] = (([] : Chunk) ++ (C18 ++ ([] : Chunk))) by simp]; exact ⟨[.int .i64 ((a0.f1.getD t1.toNat z94).f0)], _, ([] : Chunk), (C18 ++ ([] : Chunk)), rfl, rfl, ⟨rfl, rfl⟩, ⟨[.slice Ae7_1 (((a0.f1.getD t1.toNat z94).f1).set (Int.tmod (IntKind.u64.wrap a2) (IntKind.u64.wrap (((a0.f1.getD t1.toNat z94).f1).length : Int))).toNat (Go.bits .xor .u8 (((a0.f1.getD t1.toNat z94).f1).getD (Int.tmod (IntKind.u64.wrap a2) (IntKind.u64.wrap (((a0.f1.getD t1.toNat z94).f1).length : Int))).toNat 0) (IntKind.u8.wrap (IntKind.u64.wrap (1 + (Int.tmod (IntKind.u64.wrap a3) 255)))))).length ce7_1], _, C18, ([] : Chunk), rfl, rfl, ⟨Ae7_1, ce7_1, rfl, (Ho19.flat (kInt_flat _))⟩, ⟨rfl, rfl⟩⟩⟩) (fun C22 Ho23 => ?_)
        refine QP.reperm (Γ' := C22 :: [(b0, .cells #[.int .i64 a0.f0, .slice Aa0_f1 (a0.f1.set t1.toNat (⟨(a0.f1.getD t1.toNat z94).f0, (((a0.f1.getD t1.toNat z94).f1).set (Int.tmod (IntKind.u64.wrap a2) (IntKind.u64.wrap (((a0.f1.getD t1.toNat z94).f1).length : Int))).toNat (Go.bits .xor .u8 (((a0.f1.getD t1.toNat z94).f1).getD (Int.tmod (IntKind.u64.wrap a2) (IntKind.u64.wrap (((a0.f1.getD t1.toNat z94).f1).length : Int))).toNat 0) (IntKind.u8.wrap (IntKind.u64.wrap (1 + (Int.tmod (IntKind.u64.wrap a3) 255)))))), true⟩ : T94)).length ca0_f1] 89 (0, 0))] :: Γ) (by simp only [List.length_set]; exact .refl _) ?_
        obtain rfl := Option.some.inj h
        refine QP.front (i := 1) rfl ?_
        exact QP.returned [8] [.bool true] _ (by kernel_rfl) (by kernel_rfl) (by kernel_rfl) (fun W hI => ⟨_, _, _, rfl, ⟨Aa0_f1, ca0_f1, C22, rfl, Ho23, rfl, rfl⟩, hI⟩)

/-! ### grapevine/grapevinelaw0.SameBytes: function 48 -/
def grapevinelaw0_SameBytes_l0 (l0 : List Int) (l1 : List Int) : Nat → Int → Option (Sum Bool Unit)
  | 0, _ => none
  | k + 1, y4 => (if y4 < (l0.length : Int) then (if 0 ≤ y4 ∧ y4 < (l0.length : Int) then (if 0 ≤ y4 ∧ y4 < (l1.length : Int) then (if ¬ (l0.getD y4.toNat 0) = (l1.getD y4.toNat 0) then some (Sum.inl false) else grapevinelaw0_SameBytes_l0 l0 l1 k (IntKind.i64.wrap (y4 + 1))) else none) else none) else some (Sum.inr ()))
def grapevinelaw0_SameBytes (k : Nat) (l0 : List Int) (l1 : List Int) : Option Bool := (if ¬ (l0.length : Int) = (l1.length : Int) then some false else ((grapevinelaw0_SameBytes_l0 l0 l1 k 0).bind fun os2 => match os2 with | Sum.inl r => some r | Sum.inr s2 => some true))
set_option maxHeartbeats 4000000 in
theorem grapevinelaw0_SameBytes_calls {B : World} {G : GMap} {Γ : List Chunk} {W : World} (k : Nat) (l0 : List Int) (l1 : List Int) (Al0 : Option Addr) (cl0 : Nat) (Hl0 : Rd (kInt .u8) G Al0 cl0 l0) (Al1 : Option Addr) (cl1 : Nat) (Hl1 : Rd (kInt .u8) G Al1 cl1 l1) (r : Bool) (h : grapevinelaw0_SameBytes k l0 l1 = some r) (hI : Inv B G (Γ) W) :
    Calls Try.prog 48 [.slice Al0 l0.length cl0, .slice Al1 l1.length cl1].toArray W (Ret B (fun v G' Γ' => v = .bool r ∧ G = G' ∧ Γ = Γ')) := by
  refine calls_WP (Γ := Γ) (G := G) (B := B) Try.func48 rfl (by kernel_rfl) ?_ hI
  clear hI
  unfold grapevinelaw0_SameBytes at h
  refine WP.seqP [0, 1] (L' := [(0, .slice Al0 l0.length cl0), (1, .slice Al1 l1.length cl1)]) (by kernel_rfl) ?_
  refine WP.seq ?_
  refine WP.seqP [0, 1, 10] (L' := [(0, .slice Al0 l0.length cl0), (1, .slice Al1 l1.length cl1), (10, .bool ((l0.length : Int) != (l1.length : Int)))]) (by kernel_rfl) ?_
  refine WP.cond (b := ((l0.length : Int) != (l1.length : Int))) (by kernel_rfl) (fun hc => ?_) (fun hc => ?_)
  · replace hc := (bne_iff_ne.1 hc)
    rw [if_pos hc] at h
    have hc1 := hc
    clear hc
    refine WP.seqP [4] (L' := [(4, .bool false)]) (by kernel_rfl) ?_
    refine WP.ret ?_
    refine QP.thenR ?_
    obtain rfl := Option.some.inj h
    exact QP.returned [4] [.bool false] _ (by kernel_rfl) (by kernel_rfl) (by kernel_rfl) (fun W hI => ⟨_, _, _, rfl, ⟨rfl, rfl, rfl⟩, hI⟩)
  · replace hc := (not_not_intro (bne_eq_false_iff_eq.1 hc))
    rw [if_neg hc] at h
    have hc1 := hc
    clear hc
    refine WP.skip ?_
    refine QP.next ?_
    refine WP.pick [0, 1] ?_
    refine WP.seq ?_
    refine WP.seqP [0, 1, 5] (L' := [(0, .slice Al0 l0.length cl0), (1, .slice Al1 l1.length cl1), (5, .int .i64 0)]) (by kernel_rfl) ?_
    rw [Option.bind_eq_some_iff] at h
    obtain ⟨os2, h, hk3⟩ := h
    refine WP.cutQ (fun L' G' Γ' => ∃ s2 : Unit, Sum.inr s2 = os2 ∧ L' = [] ∧ G = G' ∧ Γ = Γ') ?_ ?_
    · skip
      refine WP.block ?_
      refine WP.pick [0, 1, 5] ?_
      refine WP.loopF (fun kn5 L' G' Γ' => ∃ (y4 : Int), grapevinelaw0_SameBytes_l0 l0 l1 kn5 y4 = some os2 ∧ L' = [(0, .slice Al0 l0.length cl0), (1, .slice Al1 l1.length cl1), (5, .int .i64 y4)] ∧ G = G' ∧ Γ = Γ') ?_ k ⟨0, h, rfl, rfl, rfl⟩
      clear h
      rintro kn6 _ _ _ ⟨y4, h, rfl, rfl, rfl⟩
      cases kn6 with
      | zero => exact absurd h (by simp [grapevinelaw0_SameBytes_l0])
      | succ kn6 =>
        simp only [grapevinelaw0_SameBytes_l0] at h
        refine WP.seq ?_
        refine WP.seqP [0, 1, 5, 14] (L' := [(0, .slice Al0 l0.length cl0), (1, .slice Al1 l1.length cl1), (5, .int .i64 y4), (14, .bool (decide (y4 < (l0.length : Int))))]) (by kernel_rfl) ?_
        refine WP.cond (b := decide (y4 < (l0.length : Int))) (by kernel_rfl) (fun hc => ?_) (fun hc => ?_)
        · replace hc := of_decide_eq_true hc
          rw [if_pos hc] at h
          have hc7 := hc
          clear hc
          refine WP.skip ?_
          refine QP.next ?_
          refine WP.pick [0, 1, 5] ?_
          refine WP.seq ?_
          refine WP.block ?_
          refine WP.seq ?_
          refine WP.any (N := 9) (S := [⟨some 17, [0], []⟩, ⟨some 18, [5], []⟩, ⟨some 19, [17, 18], [0, 1]⟩, ⟨some 20, [19], [2]⟩, ⟨some 21, [1], []⟩, ⟨some 22, [5], []⟩, ⟨some 23, [21, 22], [4, 5]⟩, ⟨some 24, [23], [6]⟩, ⟨some 25, [20, 24], [3, 7]⟩]) (kw := 9) (G0 := G) (Γ0 := Γ) mo (by kernel_rfl) (fun hS => ?_)
          refine WA.pure [0, 1, 4, 5] [0, 1, 5, 17, 18, 21, 22] (m := 5) (b' := 51) (L' := [(0, .slice Al0 l0.length cl0), (1, .slice Al1 l1.length cl1), (5, .int .i64 y4), (17, .slice Al0 l0.length cl0), (18, .int .i64 y4), (21, .slice Al1 l1.length cl1), (22, .int .i64 y4)]) (by kernel_rfl) (NoPanic.then (NoPanic.block (NoPanic.then (NoPanic.then (NoPanic.block (NoPanic.then (NoPanic.then (NoPanic.body)))))))) Under.refl hS (by kernel_rfl) ?_
          by_cases hb8 : 0 ≤ y4 ∧ y4 < (l0.length : Int)
          case neg => rw [if_neg hb8] at h; cases h
          rw [if_pos hb8] at h
          refine WA.tellD [] (i := 2) (m := 4) (b' := 55) (by kernel_rfl) (NoPanic.then (NoPanic.block (NoPanic.then (NoPanic.then (NoPanic.block (NoPanic.then (NoPanic.then (NoPanic.body)))))))) Under.refl hS (by kernel_rfl) (op := .indexAddr 70 (.tmp 17) (.tmp 18)) (ty := 0) (d := some 19) (g := none) (by kernel_rfl) (by kernel_rfl) (by kernel_rfl) (Tells.indexAddr (A := Al0) (n := l0.length) (c := cl0) (k := .i64) (j := y4) (by kernel_rfl) (by kernel_rfl) (Hl0.isSome hb8.1 hb8.2) hb8.1 hb8.2 sl70) ?_
          refine WA.tellDE [] (i := 3) (m := 3) (b' := 63) (by kernel_rfl) (NoPanic.then (NoPanic.block (NoPanic.then (NoPanic.then (NoPanic.block (NoPanic.then (NoPanic.then (NoPanic.body)))))))) Under.refl hS (by kernel_rfl) (op := .load 5 (.tmp 19)) (ty := 5) (d := some 20) (g := none) (by kernel_rfl) (by kernel_rfl) (by kernel_rfl) (Hl0.load (agg := false) hb8.1 hb8.2 0 ag5 (fun _ => rfl) (by kernel_rfl)) ?_
          rintro _ rfl
          by_cases hb9 : 0 ≤ y4 ∧ y4 < (l1.length : Int)
          case neg => rw [if_neg hb9] at h; cases h
          rw [if_pos hb9] at h
          refine WA.tellD [] (i := 6) (m := 2) (b' := 127) (by kernel_rfl) (NoPanic.then (NoPanic.block (NoPanic.then (NoPanic.then (NoPanic.block (NoPanic.then (NoPanic.then (NoPanic.body)))))))) Under.refl hS (by kernel_rfl) (op := .indexAddr 70 (.tmp 21) (.tmp 22)) (ty := 0) (d := some 23) (g := none) (by kernel_rfl) (by kernel_rfl) (by kernel_rfl) (Tells.indexAddr (A := Al1) (n := l1.length) (c := cl1) (k := .i64) (j := y4) (by kernel_rfl) (by kernel_rfl) (Hl1.isSome hb9.1 hb9.2) hb9.1 hb9.2 sl70) ?_
          refine WA.tellDE [] (i := 7) (m := 1) (b' := 255) (by kernel_rfl) (NoPanic.then (NoPanic.block (NoPanic.then (NoPanic.then (NoPanic.block (NoPanic.then (NoPanic.then (NoPanic.body)))))))) Under.refl hS (by kernel_rfl) (op := .load 5 (.tmp 23)) (ty := 5) (d := some 24) (g := none) (by kernel_rfl) (by kernel_rfl) (by kernel_rfl) (Hl1.load (agg := false) hb9.1 hb9.2 0 ag5 (fun _ => rfl) (by kernel_rfl)) ?_
          rintro _ rfl
          refine WA.pure [8] [0, 1, 5, 25] (m := 0) (b' := 511) (L' := [(0, .slice Al0 l0.length cl0), (1, .slice Al1 l1.length cl1), (5, .int .i64 y4), (25, .bool ((l0.getD y4.toNat 0) != (l1.getD y4.toNat 0)))]) (by kernel_rfl) (NoPanic.then (NoPanic.block (NoPanic.then (NoPanic.then (NoPanic.block (NoPanic.then (NoPanic.then (NoPanic.body)))))))) Under.refl hS (by kernel_rfl) ?_
          refine WA.done hS (by kernel_rfl) ?_
          refine QP.pick [0, 1, 5, 25] ?_
          refine QP.next ?_
          refine WP.cond (b := ((l0.getD y4.toNat 0) != (l1.getD y4.toNat 0))) (by kernel_rfl) (fun hc => ?_) (fun hc => ?_)
          · replace hc := (bne_iff_ne.1 hc)
            rw [if_pos hc] at h
            have hc10 := hc
            clear hc
            refine WP.seqP [4] (L' := [(4, .bool false)]) (by kernel_rfl) ?_
            refine WP.ret ?_
            refine QP.blockR ?_
            refine QP.thenR ?_
            refine QP.thenR ?_
            refine QP.blockR ?_
            refine QP.thenR ?_
            refine QP.thenR ?_
            obtain rfl := Option.some.inj h
            obtain rfl := Option.some.inj (show some _ = some _ from hk3)
            exact QP.returned [4] [.bool false] _ (by kernel_rfl) (by kernel_rfl) (by kernel_rfl) (fun W hI => ⟨_, _, _, rfl, ⟨rfl, rfl, rfl⟩, hI⟩)
          · replace hc := (not_not_intro (bne_eq_false_iff_eq.1 hc))
            rw [if_neg hc] at h
            have hc10 := hc
            clear hc
            refine WP.skip ?_
            refine QP.blockN ?_
            refine QP.next ?_
            refine WP.pick [0, 1, 5] ?_
            refine WP.regionP [0, 1, 5] (L' := [(0, .slice Al0 l0.length cl0), (1, .slice Al1 l1.length cl1), (5, .int .i64 (IntKind.i64.wrap (y4 + 1)))]) (by kernel_rfl) ?_
            refine QP.pick [0, 1, 5] ?_
            exact QP.meet ⟨kn6, Nat.lt_succ_self _, (IntKind.i64.wrap (y4 + 1)), h, rfl, rfl, rfl⟩
        · replace hc := of_decide_eq_false hc
          rw [if_neg hc] at h
          have hc7 := hc
          clear hc
          refine WP.exit ?_
          refine QP.thenE ?_
          refine QP.thenE ?_
          refine QP.blockE ?_
          refine QP.pick [] ?_
          exact QP.meet ⟨_, Option.some.inj h, rfl, rfl, rfl⟩
    · rintro _ _ _ ⟨s2, rfl, rfl, rfl, rfl⟩
      clear h
      replace h := hk3
      dsimp only at h
      refine QP.next ?_
      refine WP.pick [] ?_
      refine WP.seqP [4] (L' := [(4, .bool true)]) (by kernel_rfl) ?_
      refine WP.ret ?_
      obtain rfl := Option.some.inj h
      exact QP.returned [4] [.bool true] _ (by kernel_rfl) (by kernel_rfl) (by kernel_rfl) (fun W hI => ⟨_, _, _, rfl, ⟨rfl, rfl, rfl⟩, hI⟩)

/-! ### grapevine/grapevinelaw22.awake: function 47 -/
def grapevinelaw22_awake (k : Nat) : Option Bool := ((bag_New 1).bind fun t1 => Option.elim t1 (some false) (fun x4 => ((bag_Bag_Put x4 2 ([7] : List Int)).bind fun t8 => ((bag_Bag_Put t8.2 3 ([] : List Int)).bind fun t13 => ((bag_Bag_Spoil t13.2 0 0 0).bind fun t17 => ((bag_Bag_Take t17.2 5).bind fun t21 => ((if t8.1 = 0 then (if t13.1 = 10 then (if t17.1 = true then (if t21.1 = 2 then ((grapevinelaw0_SameBytes k t21.2.1 ([6] : List Int)).bind fun t34 => (if t34 = true then (if t21.2.2.1 = true then ((bag_Bag_Len t21.2.2.2).bind fun t42 => (if t42 = 0 then ((bag_New (-1)).bind fun t47 => Option.elim t47 (some true) (fun x50 => some false)) else some false)) else some false) else some false)) else some false) else some false) else some false) else some false).bind fun s25 => some s25)))))))
set_option maxHeartbeats 4000000 in
theorem grapevinelaw22_awake_calls {B : World} {G : GMap} {Γ : List Chunk} {W : World} (k : Nat) (r : Bool) (h : grapevinelaw22_awake k  = some r) (hI : Inv B G (Γ) W) :
    Calls Try.prog 47 [].toArray W (Ret B (fun v G' Γ' => v = .bool r ∧ G = G' ∧ Γ = Γ')) := by
  refine calls_WP (Γ := Γ) (G := G) (B := B) Try.func47 rfl (by kernel_rfl) ?_ hI
  clear hI
  unfold grapevinelaw22_awake at h
  refine WP.seqP [] (L' := []) (by kernel_rfl) ?_
  refine WP.seqR ?_
  rw [Option.bind_eq_some_iff] at h
  obtain ⟨t1, ht2, h⟩ := h
  refine WL.op (op := .call { callee := (.value (.func 42)), args := #[(.const (.int .i64 1))], argTypes := #[3] }) (ty := 67) (d := some 8) (g := none) (by kernel_rfl) (by kernel_rfl) (by kernel_rfl) (Does.call (f := 42) (args := [.int .i64 1]) (by kernel_rfl) (fun W hI => (bag_New_calls 1  t1 ht2 hI))) ?_
  rintro _ _ _ (⟨hx, rfl, rfl, rfl⟩ | ⟨x4, hx, bR3, AR3, cR3, CR3, rfl, HR3, rfl, rfl⟩)
  · rw [hx] at h
    rw [Option.elim_none] at h
    clear hx
    refine WL.restQ 1 [1] (L' := [(1, .pointer none)]) (by kernel_rfl) ?_
    refine WP.seq ?_
    refine WP.seqP [1, 10] (L' := [(1, .pointer none), (10, .bool true)]) (by kernel_rfl) ?_
    refine WP.yes (by kernel_rfl) ?_
    refine WP.seqP [0] (L' := [(0, .bool false)]) (by kernel_rfl) ?_
    refine WP.ret ?_
    refine QP.thenR ?_
    obtain rfl := Option.some.inj h
    exact QP.returned [0] [.bool false] _ (by kernel_rfl) (by kernel_rfl) (by kernel_rfl) (fun W hI => ⟨_, _, _, rfl, ⟨rfl, rfl, rfl⟩, hI⟩)
  · rw [hx] at h
    rw [Option.elim_some] at h
    clear hx
    refine WL.restQ 1 [1] (L' := [(1, .pointer (some ⟨bR3, 0, none⟩))]) (by kernel_rfl) ?_
    refine WP.seq ?_
    refine WP.seqP [1, 10] (L' := [(1, .pointer (some ⟨bR3, 0, none⟩)), (10, .bool false)]) (by kernel_rfl) ?_
    refine WP.no (by kernel_rfl) ?_
    refine WP.skip ?_
    refine QP.next ?_
    refine WP.pick [1] ?_
    refine WP.seqR ?_
    refine WL.pure 0 1 [1, 11] (L' := [(1, .pointer (some ⟨bR3, 0, none⟩)), (11, .pointer (some ⟨bR3, 0, none⟩))]) (by kernel_rfl) (by decide) ?_
    refine WL.op (op := .buildSlice 70 1 #[(0, (.const (.int .u8 7)))]) (ty := 70) (d := some 12) (g := none) (by kernel_rfl) (by kernel_rfl) (by kernel_rfl) (Does.new (o := .cells #[.int .u8 7] 5 (0, 0)) (v := fun r => .slice (some ⟨r, 0, none⟩) 1 1) (fun r => by kernel_rfl)) ?_
    rintro _ _ _ ⟨b5, rfl, rfl, rfl⟩
    have Ho7 : Ow (kInt .u8) G (some ⟨b5, 0, none⟩) 1 ([7] : List Int) [(b5, .cells #[.int .u8 7] 5 (0, 0))] := Ow.lit (kd := (kInt .u8)) (G := G) (b := b5) (T := 5) (xs := ([7] : List Int)) (cs := [.int .u8 7]) (.cons (x := 7) (cs := [.int .u8 7]) (by exact rfl) .nil)
    refine WL.front (i := 2) rfl ?_
    refine WL.front (i := 2) rfl ?_
    rw [Option.bind_eq_some_iff] at h
    obtain ⟨t8, ht9, h⟩ := h
    refine WL.op (op := .call { callee := (.value (.func 43)), args := #[(.tmp 11), (.const (.int .i64 2)), (.tmp 12)], argTypes := #[67, 3, 70] }) (ty := 41) (d := some 13) (g := none) (by kernel_rfl) (by kernel_rfl) (by kernel_rfl) (Does.call (Φ := fun v' G' Γ' => ∃ (AR10p0 : Option Addr), ∃ (cR10p0 : Nat), ∃ (CR10p0 : Chunk), v' = .int .i64 t8.1 ∧ Dp d94 G AR10p0 cR10p0 t8.2.f1 CR10p0 ∧ G = G' ∧ [(bR3, .cells #[.int .i64 t8.2.f0, .slice AR10p0 t8.2.f1.length cR10p0] 89 (0, 0))] :: CR10p0 :: [(b5, .cells #[.int .u8 7] 5 (0, 0))] :: Γ = Γ') (f := 43) (args := [.pointer (some ⟨bR3, 0, none⟩), .int .i64 2, .slice (some ⟨b5, 0, none⟩) ([7] : List Int).length 1]) (by kernel_rfl) (fun W hI => (Calls.lendN (Φ := fun v' N => ∃ (AR10p0 : Option Addr), ∃ (cR10p0 : Nat), ∃ (CR10p0 : Chunk), v' = .int .i64 t8.1 ∧ Dp d94 G AR10p0 cR10p0 t8.2.f1 CR10p0 ∧ N = [[(bR3, .cells #[.int .i64 t8.2.f0, .slice AR10p0 t8.2.f1.length cR10p0] 89 (0, 0))], CR10p0]) (H := [[(bR3, .cells #[.int .i64 x4.f0, .slice AR3 x4.f1.length cR3] 89 (0, 0))], CR3]) (i := 0) rfl hI (fun _ e l12 nl12 hI => by subst e; exact (((bag_Bag_Put_calls x4 2 ([7] : List Int) bR3 AR3 cR3 CR3 (HR3.mono l12) (some ⟨b5, 0, none⟩) 1 (Ho7.rdN l12 nl12) t8 ht9 hI)).mono fun _ _ hr => by obtain ⟨_, _, _, rfl, hd, hI⟩ := hr; obtain ⟨AR10p0, cR10p0, CR10p0, rfl, HR10p0, rfl, rfl⟩ := hd; exact ⟨_, _, _, rfl, ⟨[[(bR3, .cells #[.int .i64 t8.2.f0, .slice AR10p0 t8.2.f1.length cR10p0] 89 (0, 0))], CR10p0], ⟨AR10p0, cR10p0, CR10p0, rfl, (HR10p0.flat (kInt_flat .i64)), rfl⟩, rfl, rfl⟩, hI⟩))).mono fun _ _ hr => by obtain ⟨_, _, _, rfl, ⟨_, hd, rfl, rfl⟩, hI⟩ := hr; obtain ⟨AR10p0, cR10p0, CR10p0, rfl, HR10p0, rfl⟩ := hd; exact ⟨_, _, _, rfl, ⟨AR10p0, cR10p0, CR10p0, rfl, HR10p0, rfl, rfl⟩, hI⟩)) ?_
    rintro _ _ _ ⟨AR10p0, cR10p0, CR10p0, rfl, HR10p0, rfl, rfl⟩
    refine WL.pure 3 4 [1, 13, 14] (L' := [(1, .pointer (some ⟨bR3, 0, none⟩)), (13, .int .i64 t8.1), (14, .pointer (some ⟨bR3, 0, none⟩))]) (by kernel_rfl) (by decide) ?_
    refine WL.front (i := 1) rfl ?_
    refine WL.front (i := 1) rfl ?_
    rw [Option.bind_eq_some_iff] at h
    obtain ⟨t13, ht14, h⟩ := h
    refine WL.op (op := .call { callee := (.value (.func 43)), args := #[(.tmp 14), (.const (.int .i64 3)), (.const (.slice none 0 0))], argTypes := #[67, 3, 70] }) (ty := 41) (d := some 15) (g := none) (by kernel_rfl) (by kernel_rfl) (by kernel_rfl) (Does.call (f := 43) (args := [.pointer (some ⟨bR3, 0, none⟩), .int .i64 3, .slice none 0 0]) (by kernel_rfl) (fun W hI => (bag_Bag_Put_calls t8.2 3 ([] : List Int) bR3 AR10p0 cR10p0 CR10p0 HR10p0 none 0 (Rd.nil _ _ _ _) t13 ht14 hI))) ?_
    rintro _ _ _ ⟨AR15p0, cR15p0, CR15p0, rfl, HR15p0, rfl, rfl⟩
    refine WL.restQ 5 [1, 2, 3] (L' := [(1, .pointer (some ⟨bR3, 0, none⟩)), (2, .int .i64 t8.1), (3, .int .i64 t13.1)]) (by kernel_rfl) ?_
    refine WP.dropAt 2 ?_
    refine WP.seqR ?_
    refine WL.pure 0 1 [1, 2, 3, 16] (L' := [(1, .pointer (some ⟨bR3, 0, none⟩)), (2, .int .i64 t8.1), (3, .int .i64 t13.1), (16, .pointer (some ⟨bR3, 0, none⟩))]) (by kernel_rfl) (by decide) ?_
    refine WL.front (i := 1) rfl ?_
    refine WL.front (i := 1) rfl ?_
    rw [Option.bind_eq_some_iff] at h
    obtain ⟨t17, ht18, h⟩ := h
    refine WL.op (op := .call { callee := (.value (.func 50)), args := #[(.tmp 16), (.const (.int .i64 0)), (.const (.int .i64 0)), (.const (.int .i64 0))], argTypes := #[67, 3, 3, 3] }) (ty := 4) (d := some 17) (g := none) (by kernel_rfl) (by kernel_rfl) (by kernel_rfl) (Does.call (f := 50) (args := [.pointer (some ⟨bR3, 0, none⟩), .int .i64 0, .int .i64 0, .int .i64 0]) (by kernel_rfl) (fun W hI => (bag_Bag_Spoil_calls t13.2 0 0 0 bR3 AR15p0 cR15p0 CR15p0 HR15p0 t17 ht18 hI))) ?_
    rintro _ _ _ ⟨AR19p0, cR19p0, CR19p0, rfl, HR19p0, rfl, rfl⟩
    refine WL.restQ 2 [1, 2, 3, 4] (L' := [(1, .pointer (some ⟨bR3, 0, none⟩)), (2, .int .i64 t8.1), (3, .int .i64 t13.1), (4, .bool t17.1)]) (by kernel_rfl) ?_
    refine WP.seqR ?_
    refine WL.pure 0 1 [1, 2, 3, 4, 19] (L' := [(1, .pointer (some ⟨bR3, 0, none⟩)), (2, .int .i64 t8.1), (3, .int .i64 t13.1), (4, .bool t17.1), (19, .pointer (some ⟨bR3, 0, none⟩))]) (by kernel_rfl) (by decide) ?_
    refine WL.front (i := 1) rfl ?_
    refine WL.front (i := 1) rfl ?_
    rw [Option.bind_eq_some_iff] at h
    obtain ⟨t21, ht22, h⟩ := h
    refine WL.op (op := .call { callee := (.value (.func 44)), args := #[(.tmp 19), (.const (.int .i64 5))], argTypes := #[67, 3] }) (ty := 71) (d := some 20) (g := none) (by kernel_rfl) (by kernel_rfl) (by kernel_rfl) (Does.call (f := 44) (args := [.pointer (some ⟨bR3, 0, none⟩), .int .i64 5]) (by kernel_rfl) (fun W hI => (bag_Bag_Take_calls t17.2 5 bR3 AR19p0 cR19p0 CR19p0 HR19p0 t21 ht22 hI))) ?_
    rintro _ _ _ ⟨AR231, cR231, CR231, AR23p0, cR23p0, CR23p0, rfl, HR231, HR23p0, rfl, rfl⟩
    refine WL.restQ 2 [1, 2, 3, 4, 5, 6, 7] (L' := [(1, .pointer (some ⟨bR3, 0, none⟩)), (2, .int .i64 t8.1), (3, .int .i64 t13.1), (4, .bool t17.1), (5, .int .i64 t21.1), (6, .slice AR231 t21.2.1.length cR231), (7, .bool t21.2.2.1)]) (by kernel_rfl) ?_
    rw [Option.bind_eq_some_iff] at h
    obtain ⟨os25, h, hk26⟩ := h
    refine WP.cut (fun L' G' Γ' => ∃ s25 : Bool, s25 = os25 ∧ L' = [(0, .bool s25)] ∧ G = G' ∧ Γ = Γ') ?_ ?_
    · clear hk26
      refine WP.region ?_
      refine WL.pure 0 3 [1, 3, 4, 5, 6, 7, 26] (L' := [(1, .pointer (some ⟨bR3, 0, none⟩)), (3, .int .i64 t13.1), (4, .bool t17.1), (5, .int .i64 t21.1), (6, .slice AR231 t21.2.1.length cR231), (7, .bool t21.2.2.1), (26, .bool (t8.1 == 0))]) (by kernel_rfl) (by decide) ?_
      refine WL.split 26 (b := (t8.1 == 0)) (by kernel_rfl) (fun hc => ?_) (fun hc => ?_)
      · replace hc := eq_of_beq hc
        rw [if_pos hc] at h
        have hc27 := hc
        clear hc
        refine WL.pure 3 7 [1, 4, 5, 6, 7, 30] (L' := [(1, .pointer (some ⟨bR3, 0, none⟩)), (4, .bool t17.1), (5, .int .i64 t21.1), (6, .slice AR231 t21.2.1.length cR231), (7, .bool t21.2.2.1), (30, .bool (t13.1 == 10))]) (by kernel_rfl) (by decide) ?_
        refine WL.split 30 (b := (t13.1 == 10)) (by kernel_rfl) (fun hc => ?_) (fun hc => ?_)
        · replace hc := eq_of_beq hc
          rw [if_pos hc] at h
          have hc28 := hc
          clear hc
          refine WL.pure 7 10 [1, 5, 6, 7, 33] (L' := [(1, .pointer (some ⟨bR3, 0, none⟩)), (5, .int .i64 t21.1), (6, .slice AR231 t21.2.1.length cR231), (7, .bool t21.2.2.1), (33, .bool t17.1)]) (by kernel_rfl) (by decide) ?_
          refine WL.split 33 (b := t17.1) (by kernel_rfl) (fun hc => ?_) (fun hc => ?_)
          · replace hc := hc
            rw [if_pos hc] at h
            have hc29 := hc
            clear hc
            refine WL.pure 10 14 [1, 6, 7, 37] (L' := [(1, .pointer (some ⟨bR3, 0, none⟩)), (6, .slice AR231 t21.2.1.length cR231), (7, .bool t21.2.2.1), (37, .bool (t21.1 == 2))]) (by kernel_rfl) (by decide) ?_
            refine WL.split 37 (b := (t21.1 == 2)) (by kernel_rfl) (fun hc => ?_) (fun hc => ?_)
            · replace hc := eq_of_beq hc
              rw [if_pos hc] at h
              have hc30 := hc
              clear hc
              refine WL.pure 14 15 [1, 7, 37, 38] (L' := [(1, .pointer (some ⟨bR3, 0, none⟩)), (7, .bool t21.2.2.1), (37, .bool true), (38, .slice AR231 t21.2.1.length cR231)]) (by kernel_rfl) (by decide) ?_
              refine WL.op (op := .buildSlice 70 1 #[(0, (.const (.int .u8 6)))]) (ty := 70) (d := some 39) (g := some (13, true)) (by kernel_rfl) (by kernel_rfl) (by kernel_rfl) (Does.new (o := .cells #[.int .u8 6] 5 (0, 0)) (v := fun r => .slice (some ⟨r, 0, none⟩) 1 1) (fun r => by kernel_rfl)) ?_
              rintro _ _ _ ⟨b31, rfl, rfl, rfl⟩
              have Ho33 : Ow (kInt .u8) G (some ⟨b31, 0, none⟩) 1 ([6] : List Int) [(b31, .cells #[.int .u8 6] 5 (0, 0))] := Ow.lit (kd := (kInt .u8)) (G := G) (b := b31) (T := 5) (xs := ([6] : List Int)) (cs := [.int .u8 6]) (.cons (x := 6) (cs := [.int .u8 6]) (by exact rfl) .nil)
              rw [Option.bind_eq_some_iff] at h
              obtain ⟨t34, ht35, h⟩ := h
              refine WL.op (op := .call { callee := (.value (.func 48)), args := #[(.tmp 38), (.tmp 39)], argTypes := #[70, 70] }) (ty := 4) (d := some 40) (g := some (13, true)) (by kernel_rfl) (by kernel_rfl) (by kernel_rfl) (Does.call (Φ := fun v' G' Γ' => v' = .bool t34 ∧ G = G' ∧ [(b31, .cells #[.int .u8 6] 5 (0, 0))] :: CR231 :: [(bR3, .cells #[.int .i64 t21.2.2.2.f0, .slice AR23p0 t21.2.2.2.f1.length cR23p0] 89 (0, 0))] :: CR23p0 :: Γ = Γ') (f := 48) (args := [.slice AR231 t21.2.1.length cR231, .slice (some ⟨b31, 0, none⟩) ([6] : List Int).length 1]) (by kernel_rfl) (fun W hI => (Calls.lendN (Φ := fun v' N => v' = .bool t34 ∧ N = []) (H := []) (i := 1) rfl hI (fun _ e l38 nl38 hI => by subst e; exact Calls.lendN (Φ := fun v' N => v' = .bool t34 ∧ N = []) (H := []) (i := 0) rfl hI (fun _ e l39 nl39 hI => by subst e; exact (((grapevinelaw0_SameBytes_calls k t21.2.1 ([6] : List Int) AR231 cR231 ((HR231.rdN l38 nl38).mono l39) (some ⟨b31, 0, none⟩) 1 ((Ho33.mono l38).rdN l39 nl39) t34 ht35 hI)).mono fun _ _ hr => by obtain ⟨_, _, _, rfl, hd, hI⟩ := hr; obtain ⟨rfl, rfl, rfl⟩ := hd; exact ⟨_, _, _, rfl, ⟨[], ⟨rfl, rfl⟩, rfl, rfl⟩, hI⟩)))).mono fun _ _ hr => by obtain ⟨_, _, _, rfl, ⟨_, hd, rfl, rfl⟩, hI⟩ := hr; obtain ⟨rfl, rfl⟩ := hd; exact ⟨_, _, _, rfl, ⟨rfl, rfl, rfl⟩, hI⟩)) ?_
              rintro _ _ _ ⟨rfl, rfl, rfl⟩
              refine WL.pure 17 19 [1, 7, 42] (L' := [(1, .pointer (some ⟨bR3, 0, none⟩)), (7, .bool t21.2.2.1), (42, .bool t34)]) (by kernel_rfl) (by decide) ?_
              refine WL.split 42 (b := t34) (by kernel_rfl) (fun hc => ?_) (fun hc => ?_)
              · replace hc := hc
                rw [if_pos hc] at h
                have hc40 := hc
                clear hc
                refine WL.pure 19 22 [1, 45] (L' := [(1, .pointer (some ⟨bR3, 0, none⟩)), (45, .bool t21.2.2.1)]) (by kernel_rfl) (by decide) ?_
                refine WL.split 45 (b := t21.2.2.1) (by kernel_rfl) (fun hc => ?_) (fun hc => ?_)
                · replace hc := hc
                  rw [if_pos hc] at h
                  have hc41 := hc
                  clear hc
                  refine WL.pure 22 23 [45, 46] (L' := [(45, .bool true), (46, .pointer (some ⟨bR3, 0, none⟩))]) (by kernel_rfl) (by decide) ?_
                  refine WL.front (i := 3) rfl ?_
                  refine WL.front (i := 3) rfl ?_
                  rw [Option.bind_eq_some_iff] at h
                  obtain ⟨t42, ht43, h⟩ := h
                  refine WL.op (op := .call { callee := (.value (.func 46)), args := #[(.tmp 46)], argTypes := #[67] }) (ty := 3) (d := some 47) (g := some (21, true)) (by kernel_rfl) (by kernel_rfl) (by kernel_rfl) (Does.call (f := 46) (args := [.pointer (some ⟨bR3, 0, none⟩)]) (by kernel_rfl) (fun W hI => (bag_Bag_Len_calls t21.2.2.2 bR3 AR23p0 cR23p0 CR23p0 HR23p0 t42 ht43 hI))) ?_
                  rintro _ _ _ ⟨rfl, rfl, rfl⟩
                  refine WL.pure 24 27 [50] (L' := [(50, .bool (t42 == 0))]) (by kernel_rfl) (by decide) ?_
                  refine WL.split 50 (b := (t42 == 0)) (by kernel_rfl) (fun hc => ?_) (fun hc => ?_)
                  · replace hc := eq_of_beq hc
                    rw [if_pos hc] at h
                    have hc46 := hc
                    clear hc
                    rw [Option.bind_eq_some_iff] at h
                    obtain ⟨t47, ht48, h⟩ := h
                    refine WL.op (op := .call { callee := (.value (.func 42)), args := #[(.const (.int .i64 (-1)))], argTypes := #[3] }) (ty := 67) (d := some 51) (g := some (26, true)) (by kernel_rfl) (by kernel_rfl) (by kernel_rfl) (Does.call (f := 42) (args := [.int .i64 (-1)]) (by kernel_rfl) (fun W hI => (bag_New_calls (-1)  t47 ht48 hI))) ?_
                    rintro _ _ _ (⟨hx, rfl, rfl, rfl⟩ | ⟨x50, hx, bR49, AR49, cR49, CR49, rfl, HR49, rfl, rfl⟩)
                    · rw [hx] at h
                      rw [Option.elim_none] at h
                      clear hx
                      refine WL.rest 28 [0] (L' := [(0, .bool true)]) (by kernel_rfl) ?_
                      refine QP.dropAt 3 ?_
                      refine QP.dropAt 2 ?_
                      refine QP.dropAt 1 ?_
                      refine QP.dropAt 0 ?_
                      refine QP.pick [0] ?_
                      exact QP.meet ⟨_, Option.some.inj h, rfl, rfl, rfl⟩
                    · rw [hx] at h
                      rw [Option.elim_some] at h
                      clear hx
                      refine WL.rest 28 [0] (L' := [(0, .bool false)]) (by kernel_rfl) ?_
                      refine QP.dropAt 5 ?_
                      refine QP.dropAt 4 ?_
                      refine QP.dropAt 3 ?_
                      refine QP.dropAt 2 ?_
                      refine QP.dropAt 1 ?_
                      refine QP.dropAt 0 ?_
                      refine QP.pick [0] ?_
                      exact QP.meet ⟨_, Option.some.inj h, rfl, rfl, rfl⟩
                  · replace hc := ne_of_beq_false hc
                    rw [if_neg hc] at h
                    have hc46 := hc
                    clear hc
                    refine WL.rest 27 [0] (L' := [(0, .bool false)]) (by kernel_rfl) ?_
                    refine QP.dropAt 3 ?_
                    refine QP.dropAt 2 ?_
                    refine QP.dropAt 1 ?_
                    refine QP.dropAt 0 ?_
                    refine QP.pick [0] ?_
                    exact QP.meet ⟨_, Option.some.inj h, rfl, rfl, rfl⟩
                · replace hc := (Bool.eq_false_iff.1 hc)
                  rw [if_neg hc] at h
                  have hc41 := hc
                  clear hc
                  refine WL.rest 22 [0] (L' := [(0, .bool false)]) (by kernel_rfl) ?_
                  refine QP.dropAt 3 ?_
                  refine QP.dropAt 2 ?_
                  refine QP.dropAt 1 ?_
                  refine QP.dropAt 0 ?_
                  refine QP.pick [0] ?_
                  exact QP.meet ⟨_, Option.some.inj h, rfl, rfl, rfl⟩
              · replace hc := (Bool.eq_false_iff.1 hc)
                rw [if_neg hc] at h
                have hc40 := hc
                clear hc
                refine WL.rest 19 [0] (L' := [(0, .bool false)]) (by kernel_rfl) ?_
                refine QP.dropAt 3 ?_
                refine QP.dropAt 2 ?_
                refine QP.dropAt 1 ?_
                refine QP.dropAt 0 ?_
                refine QP.pick [0] ?_
                exact QP.meet ⟨_, Option.some.inj h, rfl, rfl, rfl⟩
            · replace hc := ne_of_beq_false hc
              rw [if_neg hc] at h
              have hc30 := hc
              clear hc
              refine WL.rest 14 [0] (L' := [(0, .bool false)]) (by kernel_rfl) ?_
              refine QP.dropAt 2 ?_
              refine QP.dropAt 1 ?_
              refine QP.dropAt 0 ?_
              refine QP.pick [0] ?_
              exact QP.meet ⟨_, Option.some.inj h, rfl, rfl, rfl⟩
          · replace hc := (Bool.eq_false_iff.1 hc)
            rw [if_neg hc] at h
            have hc29 := hc
            clear hc
            refine WL.rest 10 [0] (L' := [(0, .bool false)]) (by kernel_rfl) ?_
            refine QP.dropAt 2 ?_
            refine QP.dropAt 1 ?_
            refine QP.dropAt 0 ?_
            refine QP.pick [0] ?_
            exact QP.meet ⟨_, Option.some.inj h, rfl, rfl, rfl⟩
        · replace hc := ne_of_beq_false hc
          rw [if_neg hc] at h
          have hc28 := hc
          clear hc
          refine WL.rest 7 [0] (L' := [(0, .bool false)]) (by kernel_rfl) ?_
          refine QP.dropAt 2 ?_
          refine QP.dropAt 1 ?_
          refine QP.dropAt 0 ?_
          refine QP.pick [0] ?_
          exact QP.meet ⟨_, Option.some.inj h, rfl, rfl, rfl⟩
      · replace hc := ne_of_beq_false hc
        rw [if_neg hc] at h
        have hc27 := hc
        clear hc
        refine WL.rest 3 [0] (L' := [(0, .bool false)]) (by kernel_rfl) ?_
        refine QP.dropAt 2 ?_
        refine QP.dropAt 1 ?_
        refine QP.dropAt 0 ?_
        refine QP.pick [0] ?_
        exact QP.meet ⟨_, Option.some.inj h, rfl, rfl, rfl⟩
    · rintro _ _ _ ⟨s25, rfl, rfl, rfl, rfl⟩
      clear h
      replace h := hk26
      refine WP.ret ?_
      obtain rfl := Option.some.inj h
      exact QP.returned [0] [.bool s25] _ (by kernel_rfl) (by kernel_rfl) (by kernel_rfl) (fun W hI => ⟨_, _, _, rfl, ⟨rfl, rfl, rfl⟩, hI⟩)

/-! ### (*grapevine/bag.Bag).Len: function 46 -/
def bag_Bag_Len_18 : Option Int := some 0
set_option maxHeartbeats 4000000 in
theorem bag_Bag_Len_18_calls {B : World} {G : GMap} {Γ : List Chunk} {W : World} (r : Int) (h : bag_Bag_Len_18  = some r) (hI : Inv B G (Γ) W) :
    Calls Try.prog 46 [.pointer none].toArray W (Ret B (fun v G' Γ' => v = .int .i64 r ∧ G = G' ∧ Γ = Γ')) := by
  refine calls_WP (Γ := Γ) (G := G) (B := B) Try.func46 rfl (by kernel_rfl) ?_ hI
  clear hI
  unfold bag_Bag_Len_18 at h
  refine WP.seqP [0] (L' := [(0, .pointer none)]) (by kernel_rfl) ?_
  refine WP.seq ?_
  refine WP.seqP [0, 4] (L' := [(0, .pointer none), (4, .bool true)]) (by kernel_rfl) ?_
  refine WP.yes (by kernel_rfl) ?_
  refine WP.seqP [2] (L' := [(2, .int .i64 0)]) (by kernel_rfl) ?_
  refine WP.ret ?_
  refine QP.thenR ?_
  obtain rfl := Option.some.inj h
  exact QP.returned [2] [.int .i64 0] _ (by kernel_rfl) (by kernel_rfl) (by kernel_rfl) (fun W hI => ⟨_, _, _, rfl, ⟨rfl, rfl, rfl⟩, hI⟩)

/-! ### (*grapevine/bag.Bag).at: function 60 -/
def bag_Bag_at_17 (a1 : Int) : Option Int := ((bag_Bag_Len_18 ).bind fun t1 => (if t1 = 0 then some (-1) else ((bag_Bag_Len_18 ).bind fun t6 => (if ¬ (IntKind.u64.wrap t6) = 0 then some (IntKind.i64.wrap (Int.tmod (IntKind.u64.wrap a1) (IntKind.u64.wrap t6))) else none))))
set_option maxHeartbeats 4000000 in
theorem bag_Bag_at_17_calls {B : World} {G : GMap} {Γ : List Chunk} {W : World} (a1 : Int) (r : Int) (h : bag_Bag_at_17 a1 = some r) (hI : Inv B G (Γ) W) :
    Calls Try.prog 60 [.pointer none, .int .i64 a1].toArray W (Ret B (fun v G' Γ' => v = .int .i64 r ∧ G = G' ∧ Γ = Γ')) := by
  refine calls_WP (Γ := Γ) (G := G) (B := B) Try.func60 rfl (by kernel_rfl) ?_ hI
  clear hI
  unfold bag_Bag_at_17 at h
  refine WP.seqP [0, 1] (L' := [(0, .pointer none), (1, .int .i64 a1)]) (by kernel_rfl) ?_
  refine WP.seq ?_
  refine WP.seqR ?_
  refine WL.pure 0 1 [0, 1, 5] (L' := [(0, .pointer none), (1, .int .i64 a1), (5, .pointer none)]) (by kernel_rfl) (by decide) ?_
  rw [Option.bind_eq_some_iff] at h
  obtain ⟨t1, ht2, h⟩ := h
  refine WL.op (op := .call { callee := (.value (.func 46)), args := #[(.tmp 5)], argTypes := #[67] }) (ty := 3) (d := some 6) (g := none) (by kernel_rfl) (by kernel_rfl) (by kernel_rfl) (Does.call (f := 46) (args := [.pointer none]) (by kernel_rfl) (fun W hI => (bag_Bag_Len_18_calls   t1 ht2 hI))) ?_
  rintro _ _ _ ⟨rfl, rfl, rfl⟩
  refine WL.restQ 2 [0, 1, 7] (L' := [(0, .pointer none), (1, .int .i64 a1), (7, .bool (t1 == 0))]) (by kernel_rfl) ?_
  refine WP.cond (b := (t1 == 0)) (by kernel_rfl) (fun hc => ?_) (fun hc => ?_)
  · replace hc := eq_of_beq hc
    rw [if_pos hc] at h
    have hc5 := hc
    clear hc
    refine WP.seqP [4] (L' := [(4, .int .i64 (-1))]) (by kernel_rfl) ?_
    refine WP.ret ?_
    refine QP.thenR ?_
    obtain rfl := Option.some.inj h
    exact QP.returned [4] [.int .i64 (-1)] _ (by kernel_rfl) (by kernel_rfl) (by kernel_rfl) (fun W hI => ⟨_, _, _, rfl, ⟨rfl, rfl, rfl⟩, hI⟩)
  · replace hc := ne_of_beq_false hc
    rw [if_neg hc] at h
    have hc5 := hc
    clear hc
    refine WP.skip ?_
    refine QP.next ?_
    refine WP.pick [0, 1] ?_
    refine WP.seqR ?_
    refine WL.pure 0 3 [9, 10] (L' := [(9, .int .u64 (IntKind.u64.wrap a1)), (10, .pointer none)]) (by kernel_rfl) (by decide) ?_
    rw [Option.bind_eq_some_iff] at h
    obtain ⟨t6, ht7, h⟩ := h
    refine WL.op (op := .call { callee := (.value (.func 46)), args := #[(.tmp 10)], argTypes := #[67] }) (ty := 3) (d := some 11) (g := none) (by kernel_rfl) (by kernel_rfl) (by kernel_rfl) (Does.call (f := 46) (args := [.pointer none]) (by kernel_rfl) (fun W hI => (bag_Bag_Len_18_calls   t6 ht7 hI))) ?_
    rintro _ _ _ ⟨rfl, rfl, rfl⟩
    refine WL.pure 4 5 [9, 12] (L' := [(9, .int .u64 (IntKind.u64.wrap a1)), (12, .int .u64 (IntKind.u64.wrap t6))]) (by kernel_rfl) (by decide) ?_
    by_cases hb10 : ¬ (IntKind.u64.wrap t6) = 0
    case neg => rw [if_neg hb10] at h; cases h
    rw [if_pos hb10] at h
    refine WL.tell (op := .binOp .rem 83 (.tmp 9) (.tmp 12) 83) (ty := 83) (d := some 13) (g := none) (by kernel_rfl) (by kernel_rfl) (by kernel_rfl) (Tells.rem (k := .u64) (a := (IntKind.u64.wrap a1)) (b := (IntKind.u64.wrap t6)) (by kernel_rfl) (by kernel_rfl) hb10) ?_
    refine WL.restQ 6 [4] (L' := [(4, .int .i64 (IntKind.i64.wrap (Int.tmod (IntKind.u64.wrap a1) (IntKind.u64.wrap t6))))]) (by kernel_rfl) ?_
    refine WP.ret ?_
    obtain rfl := Option.some.inj h
    exact QP.returned [4] [.int .i64 (IntKind.i64.wrap (Int.tmod (IntKind.u64.wrap a1) (IntKind.u64.wrap t6)))] _ (by kernel_rfl) (by kernel_rfl) (by kernel_rfl) (fun W hI => ⟨_, _, _, rfl, ⟨rfl, rfl, rfl⟩, hI⟩)

/-! ### (*grapevine/bag.Bag).Take: function 44 -/
def bag_Bag_Take_16 (a1 : Int) : Option (Int × (List Int) × Bool) := ((bag_Bag_at_17 a1).bind fun t1 => (if t1 < 0 then some (0, ([] : List Int), false) else none))
set_option maxHeartbeats 4000000 in
theorem bag_Bag_Take_16_calls {B : World} {G : GMap} {Γ : List Chunk} {W : World} (a1 : Int) (r : Int × (List Int) × Bool) (h : bag_Bag_Take_16 a1 = some r) (hI : Inv B G (Γ) W) :
    Calls Try.prog 44 [.pointer none, .int .i64 a1].toArray W (Ret B (fun v G' Γ' => ∃ (AR1 : Option Addr), ∃ (cR1 : Nat), v = .tuple #[.int .i64 r.1, .slice AR1 r.2.1.length cR1, .bool r.2.2] ∧ Rd (kInt .u8) G' AR1 cR1 r.2.1 ∧ G = G' ∧ Γ = Γ')) := by
  refine calls_WP (Γ := Γ) (G := G) (B := B) Try.func44 rfl (by kernel_rfl) ?_ hI
  clear hI
  unfold bag_Bag_Take_16 at h
  refine WP.seqP [0, 1] (L' := [(0, .pointer none), (1, .int .i64 a1)]) (by kernel_rfl) ?_
  refine WP.seqR ?_
  refine WL.pure 0 2 [0, 9, 10] (L' := [(0, .pointer none), (9, .pointer none), (10, .int .i64 a1)]) (by kernel_rfl) (by decide) ?_
  rw [Option.bind_eq_some_iff] at h
  obtain ⟨t1, ht2, h⟩ := h
  refine WL.op (op := .call { callee := (.value (.func 60)), args := #[(.tmp 9), (.tmp 10)], argTypes := #[67, 3] }) (ty := 3) (d := some 11) (g := none) (by kernel_rfl) (by kernel_rfl) (by kernel_rfl) (Does.call (f := 60) (args := [.pointer none, .int .i64 a1]) (by kernel_rfl) (fun W hI => (bag_Bag_at_17_calls a1  t1 ht2 hI))) ?_
  rintro _ _ _ ⟨rfl, rfl, rfl⟩
  refine WL.restQ 3 [0, 7] (L' := [(0, .pointer none), (7, .int .i64 t1)]) (by kernel_rfl) ?_
  refine WP.seq ?_
  refine WP.seqP [0, 7, 13] (L' := [(0, .pointer none), (7, .int .i64 t1), (13, .bool (decide (t1 < 0)))]) (by kernel_rfl) ?_
  refine WP.cond (b := decide (t1 < 0)) (by kernel_rfl) (fun hc => ?_) (fun hc => ?_)
  · replace hc := of_decide_eq_true hc
    rw [if_pos hc] at h
    have hc5 := hc
    clear hc
    refine WP.seqP [4, 5, 6] (L' := [(4, .int .i64 0), (5, .slice none 0 0), (6, .bool false)]) (by kernel_rfl) ?_
    refine WP.ret ?_
    refine QP.thenR ?_
    obtain rfl := Option.some.inj h
    exact QP.returned [4, 5, 6] [.int .i64 0, .slice none 0 0, .bool false] _ (by kernel_rfl) (by kernel_rfl) (by kernel_rfl) (fun W hI => ⟨_, _, _, rfl, ⟨none, 0, rfl, (Rd.nil _ _ _ _), rfl, rfl⟩, hI⟩)
  · replace hc := of_decide_eq_false hc
    rw [if_neg hc] at h
    have hc5 := hc
    clear hc
    refine WP.skip ?_
    refine QP.next ?_
    refine WP.pick [0, 7] ?_
    refine WP.seqR ?_
    refine WL.pure 0 1 [0, 7, 14] (L' := [(0, .pointer none), (7, .int .i64 t1), (14, .pointer none)]) (by kernel_rfl) (by decide) ?_
    cases h

/-! ### (*grapevine/bag.Bag).Put: function 43 -/
def bag_Bag_Put_19 (a1 : Int) (l2 : List Int) : Option Int := some 1
set_option maxHeartbeats 4000000 in
theorem bag_Bag_Put_19_calls {B : World} {G : GMap} {Γ : List Chunk} {W : World} (a1 : Int) (l2 : List Int) (Al2 : Option Addr) (cl2 : Nat) (Hl2 : Rd (kInt .u8) G Al2 cl2 l2) (r : Int) (h : bag_Bag_Put_19 a1 l2 = some r) (hI : Inv B G (Γ) W) :
    Calls Try.prog 43 [.pointer none, .int .i64 a1, .slice Al2 l2.length cl2].toArray W (Ret B (fun v G' Γ' => v = .int .i64 r ∧ G = G' ∧ Γ = Γ')) := by
  refine calls_WP (Γ := Γ) (G := G) (B := B) Try.func43 rfl (by kernel_rfl) ?_ hI
  clear hI
  unfold bag_Bag_Put_19 at h
  refine WP.seqP [0, 1, 2] (L' := [(0, .pointer none), (1, .int .i64 a1), (2, .slice Al2 l2.length cl2)]) (by kernel_rfl) ?_
  refine WP.seq ?_
  refine WP.seqP [0, 1, 2, 8] (L' := [(0, .pointer none), (1, .int .i64 a1), (2, .slice Al2 l2.length cl2), (8, .bool true)]) (by kernel_rfl) ?_
  refine WP.yes (by kernel_rfl) ?_
  refine WP.seqP [6] (L' := [(6, .int .i64 1)]) (by kernel_rfl) ?_
  refine WP.ret ?_
  refine QP.thenR ?_
  obtain rfl := Option.some.inj h
  exact QP.returned [6] [.int .i64 1] _ (by kernel_rfl) (by kernel_rfl) (by kernel_rfl) (fun W hI => ⟨_, _, _, rfl, ⟨rfl, rfl, rfl⟩, hI⟩)

/-! ### (*grapevine/bag.Bag).Drop: function 45 -/
def bag_Bag_Drop_20 (a1 : Int) : Option Bool := ((bag_Bag_Take_16 a1).bind fun t1 => some t1.2.2)
set_option maxHeartbeats 4000000 in
theorem bag_Bag_Drop_20_calls {B : World} {G : GMap} {Γ : List Chunk} {W : World} (a1 : Int) (r : Bool) (h : bag_Bag_Drop_20 a1 = some r) (hI : Inv B G (Γ) W) :
    Calls Try.prog 45 [.pointer none, .int .i64 a1].toArray W (Ret B (fun v G' Γ' => v = .bool r ∧ G = G' ∧ Γ = Γ')) := by
  refine calls_WP (Γ := Γ) (G := G) (B := B) Try.func45 rfl (by kernel_rfl) ?_ hI
  clear hI
  unfold bag_Bag_Drop_20 at h
  refine WP.seqP [0, 1] (L' := [(0, .pointer none), (1, .int .i64 a1)]) (by kernel_rfl) ?_
  refine WP.seqR ?_
  refine WL.pure 0 2 [9, 10] (L' := [(9, .pointer none), (10, .int .i64 a1)]) (by kernel_rfl) (by decide) ?_
  rw [Option.bind_eq_some_iff] at h
  obtain ⟨t1, ht2, h⟩ := h
  refine WL.op (op := .call { callee := (.value (.func 44)), args := #[(.tmp 9), (.tmp 10)], argTypes := #[67, 3] }) (ty := 71) (d := some 11) (g := none) (by kernel_rfl) (by kernel_rfl) (by kernel_rfl) (Does.call (f := 44) (args := [.pointer none, .int .i64 a1]) (by kernel_rfl) (fun W hI => (bag_Bag_Take_16_calls a1  t1 ht2 hI))) ?_
  rintro _ _ _ ⟨AR31, cR31, rfl, HR31, rfl, rfl⟩
  refine WL.restQ 3 [7] (L' := [(7, .bool t1.2.2)]) (by kernel_rfl) ?_
  refine WP.seqP [4] (L' := [(4, .bool t1.2.2)]) (by kernel_rfl) ?_
  refine WP.ret ?_
  obtain rfl := Option.some.inj h
  exact QP.returned [4] [.bool t1.2.2] _ (by kernel_rfl) (by kernel_rfl) (by kernel_rfl) (fun W hI => ⟨_, _, _, rfl, ⟨rfl, rfl, rfl⟩, hI⟩)

/-! ### (*grapevine/bag.Bag).Twice: function 49 -/
def bag_Bag_Twice (a1 : Int) : Option Int := some 1
set_option maxHeartbeats 4000000 in
theorem bag_Bag_Twice_calls {B : World} {G : GMap} {Γ : List Chunk} {W : World} (a1 : Int) (r : Int) (h : bag_Bag_Twice a1 = some r) (hI : Inv B G (Γ) W) :
    Calls Try.prog 49 [.pointer none, .int .i64 a1].toArray W (Ret B (fun v G' Γ' => v = .int .i64 r ∧ G = G' ∧ Γ = Γ')) := by
  refine calls_WP (Γ := Γ) (G := G) (B := B) Try.func49 rfl (by kernel_rfl) ?_ hI
  clear hI
  unfold bag_Bag_Twice at h
  refine WP.seqP [0, 1] (L' := [(0, .pointer none), (1, .int .i64 a1)]) (by kernel_rfl) ?_
  refine WP.seq ?_
  refine WP.seqP [0, 1, 7] (L' := [(0, .pointer none), (1, .int .i64 a1), (7, .bool true)]) (by kernel_rfl) ?_
  refine WP.yes (by kernel_rfl) ?_
  refine WP.seqP [4] (L' := [(4, .int .i64 1)]) (by kernel_rfl) ?_
  refine WP.ret ?_
  refine QP.thenR ?_
  obtain rfl := Option.some.inj h
  exact QP.returned [4] [.int .i64 1] _ (by kernel_rfl) (by kernel_rfl) (by kernel_rfl) (fun W hI => ⟨_, _, _, rfl, ⟨rfl, rfl, rfl⟩, hI⟩)

/-! ### (*grapevine/bag.Bag).Spoil: function 50 -/
def bag_Bag_Spoil_22 (a1 : Int) (a2 : Int) (a3 : Int) : Option Bool := ((bag_Bag_at_17 a1).bind fun t1 => (if t1 < 0 then some false else none))
set_option maxHeartbeats 4000000 in
theorem bag_Bag_Spoil_22_calls {B : World} {G : GMap} {Γ : List Chunk} {W : World} (a1 : Int) (a2 : Int) (a3 : Int) (r : Bool) (h : bag_Bag_Spoil_22 a1 a2 a3 = some r) (hI : Inv B G (Γ) W) :
    Calls Try.prog 50 [.pointer none, .int .i64 a1, .int .i64 a2, .int .i64 a3].toArray W (Ret B (fun v G' Γ' => v = .bool r ∧ G = G' ∧ Γ = Γ')) := by
  refine calls_WP (Γ := Γ) (G := G) (B := B) Try.func50 rfl (by kernel_rfl) ?_ hI
  clear hI
  unfold bag_Bag_Spoil_22 at h
  refine WP.seqP [0, 1, 2, 3] (L' := [(0, .pointer none), (1, .int .i64 a1), (2, .int .i64 a2), (3, .int .i64 a3)]) (by kernel_rfl) ?_
  refine WP.seqR ?_
  refine WL.pure 0 2 [0, 2, 3, 11, 12] (L' := [(0, .pointer none), (2, .int .i64 a2), (3, .int .i64 a3), (11, .pointer none), (12, .int .i64 a1)]) (by kernel_rfl) (by decide) ?_
  rw [Option.bind_eq_some_iff] at h
  obtain ⟨t1, ht2, h⟩ := h
  refine WL.op (op := .call { callee := (.value (.func 60)), args := #[(.tmp 11), (.tmp 12)], argTypes := #[67, 3] }) (ty := 3) (d := some 13) (g := none) (by kernel_rfl) (by kernel_rfl) (by kernel_rfl) (Does.call (f := 60) (args := [.pointer none, .int .i64 a1]) (by kernel_rfl) (fun W hI => (bag_Bag_at_17_calls a1  t1 ht2 hI))) ?_
  rintro _ _ _ ⟨rfl, rfl, rfl⟩
  refine WL.restQ 3 [0, 2, 3, 9] (L' := [(0, .pointer none), (2, .int .i64 a2), (3, .int .i64 a3), (9, .int .i64 t1)]) (by kernel_rfl) ?_
  refine WP.seq ?_
  refine WP.seqP [0, 2, 3, 9, 15] (L' := [(0, .pointer none), (2, .int .i64 a2), (3, .int .i64 a3), (9, .int .i64 t1), (15, .bool (decide (t1 < 0)))]) (by kernel_rfl) ?_
  refine WP.cond (b := decide (t1 < 0)) (by kernel_rfl) (fun hc => ?_) (fun hc => ?_)
  · replace hc := of_decide_eq_true hc
    rw [if_pos hc] at h
    have hc5 := hc
    clear hc
    refine WP.seqP [8] (L' := [(8, .bool false)]) (by kernel_rfl) ?_
    refine WP.ret ?_
    refine QP.thenR ?_
    obtain rfl := Option.some.inj h
    exact QP.returned [8] [.bool false] _ (by kernel_rfl) (by kernel_rfl) (by kernel_rfl) (fun W hI => ⟨_, _, _, rfl, ⟨rfl, rfl, rfl⟩, hI⟩)
  · replace hc := of_decide_eq_false hc
    rw [if_neg hc] at h
    have hc5 := hc
    clear hc
    refine WP.skip ?_
    refine QP.next ?_
    refine WP.pick [0, 2, 3, 9] ?_
    refine WP.seqR ?_
    refine WL.pure 0 1 [2, 3, 9, 16] (L' := [(2, .int .i64 a2), (3, .int .i64 a3), (9, .int .i64 t1), (16, .pointer none)]) (by kernel_rfl) (by decide) ?_
    cases h

/-! ### (*grapevine/bag.Bag).To: function 51 -/
def bag_Bag_To_l0 (t1 : Int) : Nat → Int → Option Unit
  | 0, _ => none
  | k + 1, y7 => (if y7 < t1 then none else some ())
def bag_Bag_To (k : Nat) : Option (List Int) := ((bag_Bag_Len_18 ).bind fun t1 => ((bag_Bag_To_l0 t1 k 0).bind fun s5 => some ([] : List Int)))
set_option maxHeartbeats 4000000 in
theorem bag_Bag_To_calls {B : World} {G : GMap} {Γ : List Chunk} {W : World} (k : Nat) (r : List Int) (h : bag_Bag_To k  = some r) (hI : Inv B G (Γ) W) :
    Calls Try.prog 51 [.pointer none].toArray W (Ret B (fun v G' Γ' => ∃ (AR : Option Addr), ∃ (cR : Nat), v = .slice AR r.length cR ∧ Rd (kInt .i64) G' AR cR r ∧ G = G' ∧ Γ = Γ')) := by
  refine calls_WP (Γ := Γ) (G := G) (B := B) Try.func51 rfl (by kernel_rfl) ?_ hI
  clear hI
  unfold bag_Bag_To at h
  refine WP.seqP [0] (L' := [(0, .pointer none)]) (by kernel_rfl) ?_
  refine WP.seqP [0, 3] (L' := [(0, .pointer none), (3, .slice none 0 0)]) (by kernel_rfl) ?_
  refine WP.seq ?_
  refine WP.seqR ?_
  refine WL.pure 0 1 [0, 3, 5] (L' := [(0, .pointer none), (3, .slice none 0 0), (5, .pointer none)]) (by kernel_rfl) (by decide) ?_
  rw [Option.bind_eq_some_iff] at h
  obtain ⟨t1, ht2, h⟩ := h
  refine WL.op (op := .call { callee := (.value (.func 46)), args := #[(.tmp 5)], argTypes := #[67] }) (ty := 3) (d := some 6) (g := none) (by kernel_rfl) (by kernel_rfl) (by kernel_rfl) (Does.call (f := 46) (args := [.pointer none]) (by kernel_rfl) (fun W hI => (bag_Bag_Len_18_calls   t1 ht2 hI))) ?_
  rintro _ _ _ ⟨rfl, rfl, rfl⟩
  refine WL.restQ 2 [0, 3, 6, 7] (L' := [(0, .pointer none), (3, .slice none 0 0), (6, .int .i64 t1), (7, .int .i64 0)]) (by kernel_rfl) ?_
  rw [Option.bind_eq_some_iff] at h
  obtain ⟨os5, h, hk6⟩ := h
  refine WP.cutQ (fun L' G' Γ' => ∃ s5 : Unit, s5 = os5 ∧ L' = [(3, .slice none 0 0)] ∧ G = G' ∧ Γ = Γ') ?_ ?_
  · clear hk6
    refine WP.block ?_
    refine WP.pick [0, 3, 6, 7] ?_
    refine WP.loopF (fun kn8 L' G' Γ' => ∃ (y7 : Int), bag_Bag_To_l0 t1 kn8 y7 = some os5 ∧ L' = [(0, .pointer none), (3, .slice none 0 0), (6, .int .i64 t1), (7, .int .i64 y7)] ∧ G = G' ∧ Γ = Γ') ?_ k ⟨0, h, rfl, rfl, rfl⟩
    clear h
    rintro kn9 _ _ _ ⟨y7, h, rfl, rfl, rfl⟩
    cases kn9 with
    | zero => exact absurd h (by simp [bag_Bag_To_l0])
    | succ kn9 =>
      simp only [bag_Bag_To_l0] at h
      refine WP.seqP [0, 3, 6, 7, 8] (L' := [(0, .pointer none), (3, .slice none 0 0), (6, .int .i64 t1), (7, .int .i64 y7), (8, .bool (decide (y7 < t1)))]) (by kernel_rfl) ?_
      refine WP.seq ?_
      refine WP.cond (b := decide (y7 < t1)) (by kernel_rfl) (fun hc => ?_) (fun hc => ?_)
      · replace hc := of_decide_eq_true hc
        rw [if_pos hc] at h
        have hc10 := hc
        clear hc
        refine WP.skip ?_
        refine QP.next ?_
        refine WP.pick [0, 3, 6, 7] ?_
        refine WP.seq ?_
        refine WP.block ?_
        refine WP.seqP [0, 3, 4, 6, 7] (L' := [(0, .pointer none), (3, .slice none 0 0), (4, .int .i64 y7), (6, .int .i64 t1), (7, .int .i64 y7)]) (by kernel_rfl) ?_
        refine WP.region ?_
        refine WL.pure 0 2 [0, 3, 4, 6, 7, 10, 11] (L' := [(0, .pointer none), (3, .slice none 0 0), (4, .int .i64 y7), (6, .int .i64 t1), (7, .int .i64 y7), (10, .slice none 0 0), (11, .pointer none)]) (by kernel_rfl) (by decide) ?_
        cases h
      · replace hc := of_decide_eq_false hc
        rw [if_neg hc] at h
        have hc10 := hc
        clear hc
        refine WP.exit ?_
        refine QP.thenE ?_
        refine QP.thenE ?_
        refine QP.blockE ?_
        refine QP.pick [3] ?_
        exact QP.meet ⟨_, Option.some.inj h, rfl, rfl, rfl⟩
  · rintro _ _ _ ⟨s5, rfl, rfl, rfl, rfl⟩
    clear h
    replace h := hk6
    refine QP.next ?_
    refine WP.pick [3] ?_
    refine WP.seqP [2] (L' := [(2, .slice none 0 0)]) (by kernel_rfl) ?_
    refine WP.ret ?_
    obtain rfl := Option.some.inj h
    exact QP.returned [2] [.slice none 0 0] _ (by kernel_rfl) (by kernel_rfl) (by kernel_rfl) (fun W hI => ⟨_, _, _, rfl, ⟨none, 0, rfl, (Rd.nil _ _ _ _), rfl, rfl⟩, hI⟩)

/-! ### (*grapevine/bag.Bag).add: function 59 -/
def bag_Bag_add_26 (a0 : T89) (j1 : Int) : Option (Int × T89) := (if (a0.f1.length : Int) ≥ a0.f0 then some (10, a0) else ((slices_Clone_byte_byte ((a0.f1.getD j1.toNat z94).f1)).bind fun t5 => (if a0.f1.length + ([(⟨(a0.f1.getD j1.toNat z94).f0, t5, (a0.f1.getD j1.toNat z94).f2⟩ : T94)] : List T94).length ≤ 1073741824 then some (0, (⟨a0.f0, (a0.f1 ++ ([(⟨(a0.f1.getD j1.toNat z94).f0, t5, (a0.f1.getD j1.toNat z94).f2⟩ : T94)] : List T94))⟩ : T89)) else none)))
set_option maxHeartbeats 4000000 in
theorem bag_Bag_add_26_calls {B : World} {G : GMap} {Γ : List Chunk} {W : World} (a0 : T89) (j1 : Int) (b0 : Nat) (Aa0_f1 : Option Addr) (ca0_f1 : Nat) (rse1 : List (Raw d94.k.sz)) (C0e1 : Chunk) (De1 : Chunk) (Ae1_0 : Option Addr) (ce1_0 : Nat) (Ce1_0 : Chunk) (hOe1 : Ow (kRaw d94.k.sz) G Aa0_f1 ca0_f1 rse1 C0e1) (hle1 : rse1.length = a0.f1.length) (hcse1 : (rse1[j1.toNat]?).map (·.1) = some [.int .i64 ((a0.f1.getD j1.toNat z94).f0), .slice Ae1_0 ((a0.f1.getD j1.toNat z94).f1).length ce1_0, .bool ((a0.f1.getD j1.toNat z94).f2)]) (hcle1 : Dp.Closes d94 G Aa0_f1 ca0_f1 a0.f1 rse1 De1 j1.toNat) (here1 : Dp.Erases d94 G a0.f1 rse1 De1 j1.toNat) (He1_0 : Ow (kInt .u8) G Ae1_0 ce1_0 ((a0.f1.getD j1.toNat z94).f1) Ce1_0) (r : Int × T89) (h : bag_Bag_add_26 a0 j1 = some r) (hI : Inv B G ([(b0, .cells #[.int .i64 a0.f0, .slice Aa0_f1 a0.f1.length ca0_f1] 89 (0, 0))] :: C0e1 :: De1 :: Ce1_0 :: Γ) W) :
    Calls Try.prog 59 [.pointer (some ⟨b0, 0, none⟩), .agg #[.int .i64 ((a0.f1.getD j1.toNat z94).f0), .slice Ae1_0 ((a0.f1.getD j1.toNat z94).f1).length ce1_0, .bool ((a0.f1.getD j1.toNat z94).f2)]].toArray W (Ret B (fun v G' Γ' => ∃ (ARp0 : Option Addr), ∃ (cRp0 : Nat), ∃ (CRp0 : Chunk), v = .int .i64 r.1 ∧ Dp d94 G' ARp0 cRp0 r.2.f1 CRp0 ∧ G = G' ∧ [(b0, .cells #[.int .i64 r.2.f0, .slice ARp0 r.2.f1.length cRp0] 89 (0, 0))] :: CRp0 :: Γ = Γ')) := by
  refine calls_WP (Γ := [(b0, .cells #[.int .i64 a0.f0, .slice Aa0_f1 a0.f1.length ca0_f1] 89 (0, 0))] :: C0e1 :: De1 :: Ce1_0 :: Γ) (G := G) (B := B) Try.func59 rfl (by kernel_rfl) ?_ hI
  clear hI
  unfold bag_Bag_add_26 at h
  refine WP.seqR ?_
  refine WL.op (op := .box 94 (.tmp 1)) (ty := 0) (d := some 3) (g := none) (by kernel_rfl) (by kernel_rfl) (by kernel_rfl) (Does.new (o := .cells #[.int .i64 ((a0.f1.getD j1.toNat z94).f0), .slice Ae1_0 ((a0.f1.getD j1.toNat z94).f1).length ce1_0, .bool ((a0.f1.getD j1.toNat z94).f2)] 94 (0, 0)) (v := fun r => .pointer (some ⟨r, 0, none⟩)) (fun r => by kernel_rfl)) ?_
  rintro _ _ _ ⟨b1, rfl, rfl, rfl⟩
  refine WL.restQ 1 [0, 3] (L' := [(0, .pointer (some ⟨b0, 0, none⟩)), (3, .pointer (some ⟨b1, 0, none⟩))]) (by kernel_rfl) ?_
  refine WP.seq ?_
  refine WP.seq ?_
  refine WP.any (N := 10) (S := [⟨some 5, [0], []⟩, ⟨some 6, [5], [0]⟩, ⟨some 7, [6], [1]⟩, ⟨some 8, [7], [2]⟩, ⟨some 9, [8], [3]⟩, ⟨some 10, [0], []⟩, ⟨some 11, [10], [5]⟩, ⟨some 12, [11], [6]⟩, ⟨some 13, [12], [7]⟩, ⟨some 14, [9, 13], [4, 8]⟩]) (kw := 10) (G0 := G) (Γ0 := [(b1, .cells #[.int .i64 ((a0.f1.getD j1.toNat z94).f0), .slice Ae1_0 ((a0.f1.getD j1.toNat z94).f1).length ce1_0, .bool ((a0.f1.getD j1.toNat z94).f2)] 94 (0, 0))] :: [(b0, .cells #[.int .i64 a0.f0, .slice Aa0_f1 a0.f1.length ca0_f1] 89 (0, 0))] :: C0e1 :: De1 :: Ce1_0 :: Γ) mo (by kernel_rfl) (fun hS => ?_)
  refine WA.pure [0, 1, 2, 5, 6, 7] [0, 3, 7, 12] (m := 4) (b' := 231) (L' := [(0, .pointer (some ⟨b0, 0, none⟩)), (3, .pointer (some ⟨b1, 0, none⟩)), (7, .pointer (some ⟨b0, 1, none⟩)), (12, .pointer (some ⟨b0, 0, none⟩))]) (by kernel_rfl) (NoPanic.then (NoPanic.then (NoPanic.body))) Under.refl hS (by kernel_rfl) ?_
  refine WA.tellD [] (i := 3) (m := 3) (b' := 239) (by kernel_rfl) (NoPanic.then (NoPanic.then (NoPanic.body))) Under.refl hS (by kernel_rfl) (op := .load 87 (.tmp 7)) (ty := 87) (d := some 8) (g := none) (by kernel_rfl) (by kernel_rfl) (by kernel_rfl) (Tells.load_box (i := 1) (b := b0) (o := 1) (agg := false) (by rfl) ag87 (by kernel_rfl) (fun _ => rfl) (Nat.le_of_ble_eq_true rfl) (v := .slice Aa0_f1 a0.f1.length ca0_f1) (by kernel_rfl)) ?_
  refine WA.pure [4] [0, 3, 9, 12] (m := 2) (b' := 255) (L' := [(0, .pointer (some ⟨b0, 0, none⟩)), (3, .pointer (some ⟨b1, 0, none⟩)), (9, .int .i64 (a0.f1.length : Int)), (12, .pointer (some ⟨b0, 0, none⟩))]) (by kernel_rfl) (NoPanic.then (NoPanic.then (NoPanic.body))) Under.refl hS (by kernel_rfl) ?_
  refine WA.tellD [] (i := 8) (m := 1) (b' := 511) (by kernel_rfl) (NoPanic.then (NoPanic.then (NoPanic.body))) Under.refl hS (by kernel_rfl) (op := .load 3 (.tmp 12)) (ty := 3) (d := some 13) (g := none) (by kernel_rfl) (by kernel_rfl) (by kernel_rfl) (Tells.load_box (i := 1) (b := b0) (o := 0) (agg := false) (by rfl) ag3 (by kernel_rfl) (fun _ => rfl) (Nat.le_of_ble_eq_true rfl) (v := .int .i64 a0.f0) (by kernel_rfl)) ?_
  refine WA.pure [9] [0, 3, 14] (m := 0) (b' := 1023) (L' := [(0, .pointer (some ⟨b0, 0, none⟩)), (3, .pointer (some ⟨b1, 0, none⟩)), (14, .bool (decide ((a0.f1.length : Int) ≥ a0.f0)))]) (by kernel_rfl) (NoPanic.then (NoPanic.then (NoPanic.body))) Under.refl hS (by kernel_rfl) ?_
  refine WA.done hS (by kernel_rfl) ?_
  refine QP.pick [0, 3, 14] ?_
  refine QP.next ?_
  refine WP.cond (b := decide ((a0.f1.length : Int) ≥ a0.f0)) (by kernel_rfl) (fun hc => ?_) (fun hc => ?_)
  · replace hc := of_decide_eq_true hc
    rw [if_pos hc] at h
    have hc2 := hc
    clear hc
    refine WP.seqP [4] (L' := [(4, .int .i64 10)]) (by kernel_rfl) ?_
    refine WP.dropAt 0 ?_
    refine WP.ret ?_
    refine QP.thenR ?_
    refine QP.front (i := 3) rfl ?_
    refine QP.front (i := 3) rfl ?_
    refine QP.front (i := 3) rfl ?_
    refine QP.putD hOe1 hcle1 hcse1 (e := (a0.f1.getD j1.toNat z94)) [Ce1_0] (show d94.rel (a0.f1.getD j1.toNat z94) [.int .i64 ((a0.f1.getD j1.toNat z94).f0), .slice Ae1_0 ((a0.f1.getD j1.toNat z94).f1).length ce1_0, .bool ((a0.f1.getD j1.toNat z94).f2)] (List.flatten [Ce1_0]) from by rw [show List.flatten [Ce1_0] = (([] : Chunk) ++ (Ce1_0 ++ ([] : Chunk))) by simp]; exact ⟨[.int .i64 ((a0.f1.getD j1.toNat z94).f0)], _, ([] : Chunk), (Ce1_0 ++ ([] : Chunk)), rfl, rfl, ⟨rfl, rfl⟩, ⟨[.slice Ae1_0 ((a0.f1.getD j1.toNat z94).f1).length ce1_0], _, Ce1_0, ([] : Chunk), rfl, rfl, ⟨Ae1_0, ce1_0, rfl, (He1_0.flat (kInt_flat _))⟩, ⟨rfl, rfl⟩⟩⟩) (fun C3 Ho4 => ?_)
    rw [getD_set_self] at Ho4
    obtain rfl := Option.some.inj h
    refine QP.front (i := 1) rfl ?_
    exact QP.returned [4] [.int .i64 10] _ (by kernel_rfl) (by kernel_rfl) (by kernel_rfl) (fun W hI => ⟨_, _, _, rfl, ⟨Aa0_f1, ca0_f1, C3, rfl, Ho4, rfl, rfl⟩, hI⟩)
  · replace hc := of_decide_eq_false hc
    rw [if_neg hc] at h
    have hc2 := hc
    clear hc
    refine WP.skip ?_
    refine QP.next ?_
    refine WP.pick [0, 3] ?_
    refine WP.seqR ?_
    refine WL.pure 0 2 [0, 3, 16] (L' := [(0, .pointer (some ⟨b0, 0, none⟩)), (3, .pointer (some ⟨b1, 0, none⟩)), (16, .pointer (some ⟨b1, 1, none⟩))]) (by kernel_rfl) (by decide) ?_
    refine WL.tell (op := .load 70 (.tmp 16)) (ty := 70) (d := some 17) (g := none) (by kernel_rfl) (by kernel_rfl) (by kernel_rfl) (Tells.load_box (i := 0) (b := b1) (o := 1) (agg := false) (by rfl) ag70 (by kernel_rfl) (fun _ => rfl) (Nat.le_of_ble_eq_true rfl) (v := .slice Ae1_0 ((a0.f1.getD j1.toNat z94).f1).length ce1_0) (by kernel_rfl)) ?_
    rw [Option.bind_eq_some_iff] at h
    obtain ⟨t5, ht6, h⟩ := h
    refine WL.op (op := .call { callee := (.value (.func 62)), args := #[(.tmp 17)], argTypes := #[70] }) (ty := 70) (d := some 18) (g := none) (by kernel_rfl) (by kernel_rfl) (by kernel_rfl) (Does.call (Φ := fun v' G' Γ' => ∃ (AR7 : Option Addr), ∃ (cR7 : Nat), ∃ (CR7 : Chunk), v' = .slice AR7 t5.length cR7 ∧ Ow (kInt .u8) G AR7 cR7 t5 CR7 ∧ G = G' ∧ CR7 :: [(b1, .cells #[.int .i64 ((a0.f1.getD j1.toNat z94).f0), .slice Ae1_0 ((a0.f1.getD j1.toNat z94).f1).length ce1_0, .bool ((a0.f1.getD j1.toNat z94).f2)] 94 (0, 0))] :: [(b0, .cells #[.int .i64 a0.f0, .slice Aa0_f1 a0.f1.length ca0_f1] 89 (0, 0))] :: C0e1 :: De1 :: Ce1_0 :: Γ = Γ') (f := 62) (args := [.slice Ae1_0 ((a0.f1.getD j1.toNat z94).f1).length ce1_0]) (by kernel_rfl) (fun W hI => (Calls.lendN (Φ := fun v' N => ∃ (AR7 : Option Addr), ∃ (cR7 : Nat), ∃ (CR7 : Chunk), v' = .slice AR7 t5.length cR7 ∧ Ow (kInt .u8) G AR7 cR7 t5 CR7 ∧ N = [CR7]) (H := []) (i := 4) rfl hI (fun _ e l9 nl9 hI => by subst e; exact (((slices_Clone_byte_byte_calls ((a0.f1.getD j1.toNat z94).f1) Ae1_0 ce1_0 (He1_0.rdN l9 nl9) t5 ht6 hI)).mono fun _ _ hr => by obtain ⟨_, _, _, rfl, hd, hI⟩ := hr; obtain ⟨AR7, cR7, CR7, rfl, HR7, rfl, rfl⟩ := hd; exact ⟨_, _, _, rfl, ⟨[CR7], ⟨AR7, cR7, CR7, rfl, (HR7.flat (kInt_flat _)), rfl⟩, rfl, rfl⟩, hI⟩))).mono fun _ _ hr => by obtain ⟨_, _, _, rfl, ⟨_, hd, rfl, rfl⟩, hI⟩ := hr; obtain ⟨AR7, cR7, CR7, rfl, HR7, rfl⟩ := hd; exact ⟨_, _, _, rfl, ⟨AR7, cR7, CR7, rfl, HR7, rfl, rfl⟩, hI⟩)) ?_
    rintro _ _ _ ⟨AR7, cR7, CR7, rfl, HR7, rfl, rfl⟩
    refine WL.pure 4 6 [0, 3, 18, 20] (L' := [(0, .pointer (some ⟨b0, 0, none⟩)), (3, .pointer (some ⟨b1, 0, none⟩)), (18, .slice AR7 t5.length cR7), (20, .pointer (some ⟨b1, 1, none⟩))]) (by kernel_rfl) (by decide) ?_
    refine WL.op (op := .store 70 (.tmp 20) (.tmp 18)) (ty := 0) (d := none) (g := none) (by kernel_rfl) (by kernel_rfl) (by kernel_rfl) (Does.store_box (i := 1) (b := b1) (o := 1) (v := .slice AR7 t5.length cR7) (by rfl) sz70 (by kernel_rfl) (by kernel_rfl) (by kernel_rfl) (Free.zero _) (Nat.le_of_ble_eq_true rfl) (cells' := #[.int .i64 ((a0.f1.getD j1.toNat z94).f0), .slice AR7 t5.length cR7, .bool ((a0.f1.getD j1.toNat z94).f2)]) (by kernel_rfl)) ?_
    rintro _ _ _ ⟨rfl, rfl, rfl⟩
    refine WL.restQ 7 [0, 3] (L' := [(0, .pointer (some ⟨b0, 0, none⟩)), (3, .pointer (some ⟨b1, 0, none⟩))]) (by kernel_rfl) ?_
    refine WP.front (i := 5) rfl ?_
    refine WP.front (i := 5) rfl ?_
    refine WP.front (i := 5) rfl ?_
    refine WP.putD hOe1 hcle1 hcse1 (e := (a0.f1.getD j1.toNat z94)) [Ce1_0] (show d94.rel (a0.f1.getD j1.toNat z94) [.int .i64 ((a0.f1.getD j1.toNat z94).f0), .slice Ae1_0 ((a0.f1.getD j1.toNat z94).f1).length ce1_0, .bool ((a0.f1.getD j1.toNat z94).f2)] (List.flatten [Ce1_0]) from by rw [show List.flatten [Ce1_0] = (([] : Chunk) ++ (Ce1_0 ++ ([] : Chunk))) by simp]; exact ⟨[.int .i64 ((a0.f1.getD j1.toNat z94).f0)], _, ([] : Chunk), (Ce1_0 ++ ([] : Chunk)), rfl, rfl, ⟨rfl, rfl⟩, ⟨[.slice Ae1_0 ((a0.f1.getD j1.toNat z94).f1).length ce1_0], _, Ce1_0, ([] : Chunk), rfl, rfl, ⟨Ae1_0, ce1_0, rfl, (He1_0.flat (kInt_flat _))⟩, ⟨rfl, rfl⟩⟩⟩) (fun C10 Ho11 => ?_)
    rw [getD_set_self] at Ho11
    refine WP.seq ?_
    refine WP.any (N := 11) (S := [⟨some 21, [0], []⟩, ⟨some 22, [0], []⟩, ⟨some 23, [22], [1]⟩, ⟨some 24, [23], [2]⟩, ⟨some 25, [24], [3]⟩, ⟨some 26, [3], []⟩, ⟨some 27, [26], [5]⟩, ⟨some 28, [25, 27], [4, 6]⟩, ⟨some 29, [21], [0, 1, 2, 3, 4, 5, 6, 7]⟩, ⟨some 30, [29], [0, 1, 2, 3, 4, 5, 6, 7, 8]⟩, ⟨none, [28, 30], [0, 1, 2, 3, 4, 5, 6, 7, 9]⟩]) (kw := 7) (G0 := G) (Γ0 := C10 :: CR7 :: [(b1, .cells #[.int .i64 ((a0.f1.getD j1.toNat z94).f0), .slice AR7 t5.length cR7, .bool ((a0.f1.getD j1.toNat z94).f2)] 94 (0, 0))] :: [(b0, .cells #[.int .i64 a0.f0, .slice Aa0_f1 a0.f1.length ca0_f1] 89 (0, 0))] :: Γ) mo (by kernel_rfl) (fun hS => ?_)
    refine WA.pure [0, 1, 2, 3] [3, 21, 24] (m := 7) (b' := 15) (L' := [(3, .pointer (some ⟨b1, 0, none⟩)), (21, .pointer (some ⟨b0, 0, none⟩)), (24, .pointer (some ⟨b0, 1, none⟩))]) (by kernel_rfl) (NoPanic.then (NoPanic.body)) Under.refl hS (by kernel_rfl) ?_
    refine WA.tellD [7] (i := 4) (m := 6) (b' := 31) (by kernel_rfl) (NoPanic.then (NoPanic.body)) Under.refl hS (by kernel_rfl) (op := .load 87 (.tmp 24)) (ty := 87) (d := some 25) (g := none) (by kernel_rfl) (by kernel_rfl) (by kernel_rfl) (Tells.load_box (i := 3) (b := b0) (o := 1) (agg := false) (by rfl) ag87 (by kernel_rfl) (fun _ => rfl) (Nat.le_of_ble_eq_true rfl) (v := .slice Aa0_f1 a0.f1.length ca0_f1) (by kernel_rfl)) ?_
    refine WA.tellD [7, 6] (i := 5) (m := 5) (b' := 63) (by kernel_rfl) (NoPanic.then (NoPanic.body)) Under.refl hS (by kernel_rfl) (op := .load 94 (.tmp 3)) (ty := 94) (d := some 26) (g := none) (by kernel_rfl) (by kernel_rfl) (by kernel_rfl) (Tells.load_box (i := 2) (b := b1) (o := 0) (agg := true) (by rfl) ag94 (by kernel_rfl) (fun h => by cases h) (Nat.le_of_ble_eq_true rfl) (v := .agg #[.int .i64 ((a0.f1.getD j1.toNat z94).f0), .slice AR7 t5.length cR7, .bool ((a0.f1.getD j1.toNat z94).f2)]) (by kernel_rfl)) ?_
    refine WA.op (i := 6) (m := 4) (b' := 127) (by kernel_rfl) hS (by kernel_rfl) (op := .buildSlice 87 1 #[(0, (.tmp 26))]) (ty := 87) (d := some 27) (g := none) (by kernel_rfl) (by kernel_rfl) (by kernel_rfl) (Does.new (o := .cells #[.int .i64 ((a0.f1.getD j1.toNat z94).f0), .slice AR7 t5.length cR7, .bool ((a0.f1.getD j1.toNat z94).f2)] 94 (0, 0)) (v := fun r => .slice (some ⟨r, 0, none⟩) 1 1) (fun r => by kernel_rfl)) ?_
    rintro _ _ _ ⟨b12, rfl, rfl, rfl⟩
    refine ⟨_, _, Under.cons Under.refl, Under.refl, ?_⟩
    refine WA.front (i := 2) rfl ?_
    refine WA.front (i := 2) rfl ?_
    by_cases hb15 : a0.f1.length + ([(⟨(a0.f1.getD j1.toNat z94).f0, t5, (a0.f1.getD j1.toNat z94).f2⟩ : T94)] : List T94).length ≤ 1073741824
    case neg => rw [if_neg hb15] at h; cases h
    rw [if_pos hb15] at h
    refine WA.opK (i := 7) (kw' := 10) (m := 3) (b' := 255) (by kernel_rfl) rfl hS (by kernel_rfl) (op := .call { callee := (.builtin .append), args := #[(.tmp 25), (.tmp 27)], argTypes := #[87, 87] }) (ty := 87) (d := some 28) (g := none) (by kernel_rfl) (by kernel_rfl) (by kernel_rfl) (Dp.append1L Ho11 [CR7] (e := (⟨(a0.f1.getD j1.toNat z94).f0, t5, (a0.f1.getD j1.toNat z94).f2⟩ : T94)) (cs := [.int .i64 ((a0.f1.getD j1.toNat z94).f0), .slice AR7 t5.length cR7, .bool ((a0.f1.getD j1.toNat z94).f2)]) (show d94.rel (⟨(a0.f1.getD j1.toNat z94).f0, t5, (a0.f1.getD j1.toNat z94).f2⟩ : T94) [.int .i64 ((a0.f1.getD j1.toNat z94).f0), .slice AR7 t5.length cR7, .bool ((a0.f1.getD j1.toNat z94).f2)] (List.flatten [CR7]) from by rw [show List.flatten [CR7] = (([] : Chunk) ++ (CR7 ++ ([] : Chunk))) by simp]; exact ⟨[.int .i64 ((a0.f1.getD j1.toNat z94).f0)], _, ([] : Chunk), (CR7 ++ ([] : Chunk)), rfl, rfl, ⟨rfl, rfl⟩, ⟨[.slice AR7 t5.length cR7], _, CR7, ([] : Chunk), rfl, rfl, ⟨AR7, cR7, rfl, (HR7.flat (kInt_flat _))⟩, ⟨rfl, rfl⟩⟩⟩) (b := b12) (T := 94) (li := 2) (by kernel_rfl) (by kernel_rfl) rfl sl87 ze94 nt87 (by decide) hb15) ?_
    rintro _ _ _ ⟨rfl, AN16, cN16, CN16, rfl, HN16, rfl⟩
    refine ⟨_, _, Under.refl, ?_⟩
    refine WA.pure [8, 9] [28, 30] (m := 1) (b' := 1023) (L' := [(28, .slice AN16 (a0.f1 ++ ([(⟨(a0.f1.getD j1.toNat z94).f0, t5, (a0.f1.getD j1.toNat z94).f2⟩ : T94)] : List T94)).length cN16), (30, .pointer (some ⟨b0, 1, none⟩))]) (by kernel_rfl) (NoPanic.then (NoPanic.body)) Under.refl hS (by kernel_rfl) ?_
    refine WA.opK (i := 10) (kw' := 11) (m := 0) (b' := 2047) (by kernel_rfl) rfl hS (by kernel_rfl) (op := .store 87 (.tmp 30) (.tmp 28)) (ty := 0) (d := none) (g := none) (by kernel_rfl) (by kernel_rfl) (by kernel_rfl) (Does.store_box (i := 3) (b := b0) (o := 1) (v := .slice AN16 (a0.f1 ++ ([(⟨(a0.f1.getD j1.toNat z94).f0, t5, (a0.f1.getD j1.toNat z94).f2⟩ : T94)] : List T94)).length cN16) (by rfl) sz87 (by kernel_rfl) (by kernel_rfl) (by kernel_rfl) (Free.zero _) (Nat.le_of_ble_eq_true rfl) (cells' := #[.int .i64 a0.f0, .slice AN16 (a0.f1 ++ ([(⟨(a0.f1.getD j1.toNat z94).f0, t5, (a0.f1.getD j1.toNat z94).f2⟩ : T94)] : List T94)).length cN16]) (by kernel_rfl)) ?_
    rintro _ _ _ ⟨rfl, rfl, rfl⟩
    refine ⟨_, _, Under.refl, ?_⟩
    refine WA.done hS (by kernel_rfl) ?_
    refine QP.pick [] ?_
    refine QP.next ?_
    refine WP.dropAt 2 ?_
    refine WP.dropAt 1 ?_
    refine WP.seqP [4] (L' := [(4, .int .i64 0)]) (by kernel_rfl) ?_
    refine WP.ret ?_
    obtain rfl := Option.some.inj h
    refine QP.front (i := 1) rfl ?_
    exact QP.returned [4] [.int .i64 0] _ (by kernel_rfl) (by kernel_rfl) (by kernel_rfl) (fun W hI => ⟨_, _, _, rfl, ⟨AN16, cN16, CN16, rfl, HN16, rfl, rfl⟩, hI⟩)

/-! ### (*grapevine/bag.Bag).Twice: function 49 -/
def bag_Bag_Twice_25 (a0 : T89) (a1 : Int) : Option (Int × T89) := ((bag_Bag_at a0 a1).bind fun t1 => (if t1 < 0 then some (13, a0) else (if 0 ≤ t1 ∧ t1 < (a0.f1.length : Int) then ((bag_Bag_add_26 a0 t1).bind fun t9 => some (t9.1, t9.2)) else none)))
set_option maxHeartbeats 4000000 in
theorem bag_Bag_Twice_25_calls {B : World} {G : GMap} {Γ : List Chunk} {W : World} (a0 : T89) (a1 : Int) (b0 : Nat) (Aa0_f1 : Option Addr) (ca0_f1 : Nat) (Ca0_f1 : Chunk) (Ha0_f1 : Dp d94 G Aa0_f1 ca0_f1 a0.f1 Ca0_f1) (r : Int × T89) (h : bag_Bag_Twice_25 a0 a1 = some r) (hI : Inv B G ([(b0, .cells #[.int .i64 a0.f0, .slice Aa0_f1 a0.f1.length ca0_f1] 89 (0, 0))] :: Ca0_f1 :: Γ) W) :
    Calls Try.prog 49 [.pointer (some ⟨b0, 0, none⟩), .int .i64 a1].toArray W (Ret B (fun v G' Γ' => ∃ (ARp0 : Option Addr), ∃ (cRp0 : Nat), ∃ (CRp0 : Chunk), v = .int .i64 r.1 ∧ Dp d94 G' ARp0 cRp0 r.2.f1 CRp0 ∧ G = G' ∧ [(b0, .cells #[.int .i64 r.2.f0, .slice ARp0 r.2.f1.length cRp0] 89 (0, 0))] :: CRp0 :: Γ = Γ')) := by
  refine calls_WP (Γ := [(b0, .cells #[.int .i64 a0.f0, .slice Aa0_f1 a0.f1.length ca0_f1] 89 (0, 0))] :: Ca0_f1 :: Γ) (G := G) (B := B) Try.func49 rfl (by kernel_rfl) ?_ hI
  clear hI
  unfold bag_Bag_Twice_25 at h
  refine WP.seqP [0, 1] (L' := [(0, .pointer (some ⟨b0, 0, none⟩)), (1, .int .i64 a1)]) (by kernel_rfl) ?_
  refine WP.seq ?_
  refine WP.seqP [0, 1, 7] (L' := [(0, .pointer (some ⟨b0, 0, none⟩)), (1, .int .i64 a1), (7, .bool false)]) (by kernel_rfl) ?_
  refine WP.no (by kernel_rfl) ?_
  refine WP.skip ?_
  refine QP.next ?_
  refine WP.pick [0, 1] ?_
  refine WP.seqR ?_
  refine WL.pure 0 2 [0, 8, 9] (L' := [(0, .pointer (some ⟨b0, 0, none⟩)), (8, .pointer (some ⟨b0, 0, none⟩)), (9, .int .i64 a1)]) (by kernel_rfl) (by decide) ?_
  refine WL.front (i := 1) rfl ?_
  refine WL.front (i := 1) rfl ?_
  rw [Option.bind_eq_some_iff] at h
  obtain ⟨t1, ht2, h⟩ := h
  refine WL.op (op := .call { callee := (.value (.func 60)), args := #[(.tmp 8), (.tmp 9)], argTypes := #[67, 3] }) (ty := 3) (d := some 10) (g := none) (by kernel_rfl) (by kernel_rfl) (by kernel_rfl) (Does.call (f := 60) (args := [.pointer (some ⟨b0, 0, none⟩), .int .i64 a1]) (by kernel_rfl) (fun W hI => (bag_Bag_at_calls a0 a1 b0 Aa0_f1 ca0_f1 Ca0_f1 Ha0_f1 t1 ht2 hI))) ?_
  rintro _ _ _ ⟨rfl, rfl, rfl⟩
  refine WL.restQ 3 [0, 5] (L' := [(0, .pointer (some ⟨b0, 0, none⟩)), (5, .int .i64 t1)]) (by kernel_rfl) ?_
  refine WP.seq ?_
  refine WP.seqP [0, 5, 12] (L' := [(0, .pointer (some ⟨b0, 0, none⟩)), (5, .int .i64 t1), (12, .bool (decide (t1 < 0)))]) (by kernel_rfl) ?_
  refine WP.cond (b := decide (t1 < 0)) (by kernel_rfl) (fun hc => ?_) (fun hc => ?_)
  · replace hc := of_decide_eq_true hc
    rw [if_pos hc] at h
    have hc5 := hc
    clear hc
    refine WP.seqP [4] (L' := [(4, .int .i64 13)]) (by kernel_rfl) ?_
    refine WP.ret ?_
    refine QP.thenR ?_
    obtain rfl := Option.some.inj h
    exact QP.returned [4] [.int .i64 13] _ (by kernel_rfl) (by kernel_rfl) (by kernel_rfl) (fun W hI => ⟨_, _, _, rfl, ⟨Aa0_f1, ca0_f1, Ca0_f1, rfl, Ha0_f1, rfl, rfl⟩, hI⟩)
  · replace hc := of_decide_eq_false hc
    rw [if_neg hc] at h
    have hc5 := hc
    clear hc
    refine WP.skip ?_
    refine QP.next ?_
    refine WP.pick [0, 5] ?_
    refine WP.seqR ?_
    refine WL.pure 0 4 [5, 13, 16] (L' := [(5, .int .i64 t1), (13, .pointer (some ⟨b0, 0, none⟩)), (16, .pointer (some ⟨b0, 1, none⟩))]) (by kernel_rfl) (by decide) ?_
    refine WL.tell (op := .load 87 (.tmp 16)) (ty := 87) (d := some 17) (g := none) (by kernel_rfl) (by kernel_rfl) (by kernel_rfl) (Tells.load_box (i := 0) (b := b0) (o := 1) (agg := false) (by rfl) ag87 (by kernel_rfl) (fun _ => rfl) (Nat.le_of_ble_eq_true rfl) (v := .slice Aa0_f1 a0.f1.length ca0_f1) (by kernel_rfl)) ?_
    refine WL.pure 5 6 [13, 17, 18] (L' := [(13, .pointer (some ⟨b0, 0, none⟩)), (17, .slice Aa0_f1 a0.f1.length ca0_f1), (18, .int .i64 t1)]) (by kernel_rfl) (by decide) ?_
    by_cases hb6 : 0 ≤ t1 ∧ t1 < (a0.f1.length : Int)
    case neg => rw [if_neg hb6] at h; cases h
    rw [if_pos hb6] at h
    refine WL.tell (op := .indexAddr 87 (.tmp 17) (.tmp 18)) (ty := 0) (d := some 19) (g := none) (by kernel_rfl) (by kernel_rfl) (by kernel_rfl) (Tells.indexAddr (A := Aa0_f1) (n := a0.f1.length) (c := ca0_f1) (k := .i64) (j := t1) (by kernel_rfl) (by kernel_rfl) (Ha0_f1.isSome hb6.1 hb6.2) hb6.1 hb6.2 sl87) ?_
    refine WL.front (i := 1) rfl ?_
    refine WL.takeE (dk := d94) Ha0_f1 hb6.2 hb6.1 z94 (fun rse7 C0e7 De7 _ _ hOe7 hle7 hcse7 hre7 hcle7 here7 => ?_)
    obtain ⟨_, _, _, _, rfl, rfl, ⟨rfl, rfl⟩, ⟨_, _, Ce7_1, _, rfl, rfl, ⟨Ae7_1, ce7_1, rfl, He7_1⟩, ⟨rfl, rfl⟩⟩⟩ := hre7
    have Ho8 : Ow (kInt .u8) G Ae7_1 ce7_1 ((a0.f1.getD t1.toNat z94).f1) Ce7_1 := He7_1.mono (G0.le _)
    refine WL.reperm (Γ' := C0e7 :: De7 :: Ce7_1 :: [(b0, .cells #[.int .i64 a0.f0, .slice Aa0_f1 a0.f1.length ca0_f1] 89 (0, 0))] :: Γ) (by simp) ?_
    refine WL.tell (op := .load 94 (.tmp 19)) (ty := 94) (d := some 20) (g := none) (by kernel_rfl) (by kernel_rfl) (by kernel_rfl) (Ow.loadRaw hOe7 (i := 0) rfl (agg := true) (off := 0) (sz := 3) hb6.1 hcse7 ag94 (fun h => by cases h) (by decide) (by kernel_rfl) (v := .agg #[.int .i64 ((a0.f1.getD t1.toNat z94).f0), .slice Ae7_1 ((a0.f1.getD t1.toNat z94).f1).length ce7_1, .bool ((a0.f1.getD t1.toNat z94).f2)]) (by kernel_rfl)) ?_
    refine WL.front (i := 2) rfl ?_
    refine WL.front (i := 2) rfl ?_
    refine WL.front (i := 2) rfl ?_
    refine WL.front (i := 3) rfl ?_
    rw [Option.bind_eq_some_iff] at h
    obtain ⟨t9, ht10, h⟩ := h
    refine WL.op (op := .call { callee := (.value (.func 59)), args := #[(.tmp 13), (.tmp 20)], argTypes := #[67, 94] }) (ty := 41) (d := some 21) (g := none) (by kernel_rfl) (by kernel_rfl) (by kernel_rfl) (Does.call (f := 59) (args := [.pointer (some ⟨b0, 0, none⟩), .agg #[.int .i64 ((a0.f1.getD t1.toNat z94).f0), .slice Ae7_1 ((a0.f1.getD t1.toNat z94).f1).length ce7_1, .bool ((a0.f1.getD t1.toNat z94).f2)]]) (by kernel_rfl) (fun W hI => (bag_Bag_add_26_calls a0 t1 b0 Aa0_f1 ca0_f1 rse7 C0e7 De7 Ae7_1 ce7_1 Ce7_1 hOe7 hle7 hcse7 hcle7 here7 Ho8 t9 ht10 hI))) ?_
    rintro _ _ _ ⟨AR11p0, cR11p0, CR11p0, rfl, HR11p0, rfl, rfl⟩
    refine WL.restQ 9 [4] (L' := [(4, .int .i64 t9.1)]) (by kernel_rfl) ?_
    refine WP.ret ?_
    obtain rfl := Option.some.inj h
    exact QP.returned [4] [.int .i64 t9.1] _ (by kernel_rfl) (by kernel_rfl) (by kernel_rfl) (fun W hI => ⟨_, _, _, rfl, ⟨AR11p0, cR11p0, CR11p0, rfl, HR11p0, rfl, rfl⟩, hI⟩)
end Go.Proofs.Ytmphcmgbognmnaa.Gf
