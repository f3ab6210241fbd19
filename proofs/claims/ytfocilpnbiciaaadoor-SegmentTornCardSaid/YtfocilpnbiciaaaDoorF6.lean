/- Walks of Go functions: what each tells, as a plain Lean function, and that the Go code comes to it. Written by gg.py of this repo. -/
import Derived.Test.YtfocilpnbiciaaaDoorT
import Derived.Test.YtfocilpnbiciaaaDoorF0
namespace Go.Proofs.YtfocilpnbiciaaaDoor.Gf
open Go Go.Gg
set_option maxRecDepth 100000
set_option linter.unusedVariables false
set_option linter.unusedSimpArgs false

/-! ### grapevine/grapevinelaw8.base: function 37 -/
def grapevinelaw8_base : Option T41 := some (⟨1, ([2, 0] : List Int), ([1, 0] : List Int), 0, 0, 0, 0, (⟨#[]⟩ : ByteArray)⟩ : T41)
set_option maxHeartbeats 4000000 in
theorem grapevinelaw8_base_calls {B : World} {G : GMap} {Γ : List Chunk} {W : World} (r : T41) (h : grapevinelaw8_base  = some r) (hI : Inv B G (Γ) W) :
    Calls Tryd.prog 37 [].toArray W (Ret B (fun v G' Γ' => ∃ (AR_0 : Option Addr), ∃ (cR_0 : Nat), ∃ (CR_0 : Chunk), ∃ (AR_1 : Option Addr), ∃ (cR_1 : Nat), ∃ (CR_1 : Chunk), v = .agg #[.int .i64 r.f0, .slice AR_0 r.f1.length cR_0, .slice AR_1 r.f2.length cR_1, .int .i64 r.f3, .int .i64 r.f4, .int .i64 r.f5, .int .i64 r.f6, .string r.f7] ∧ Ow (kInt .i64) G' AR_0 cR_0 r.f1 CR_0 ∧ Ow (kInt .i64) G' AR_1 cR_1 r.f2 CR_1 ∧ G = G' ∧ CR_0 :: CR_1 :: Γ = Γ')) := by
  refine calls_WP (Γ := Γ) (G := G) (B := B) Tryd.func37 rfl (by kernel_rfl) ?_ hI
  clear hI
  unfold grapevinelaw8_base at h
  refine WP.seqR ?_
  refine WL.op (op := .alloc 41) (ty := 0) (d := some 0) (g := none) (by kernel_rfl) (by kernel_rfl) (by kernel_rfl) (Does.new (o := .cells #[.int .i64 0, .slice none 0 0, .slice none 0 0, .int .i64 0, .int .i64 0, .int .i64 0, .int .i64 0, .string (⟨#[]⟩ : ByteArray)] 41 (0, 0)) (v := fun r => .pointer (some ⟨r, 0, none⟩)) (fun r => by kernel_rfl)) ?_
  rintro _ _ _ ⟨b1, rfl, rfl, rfl⟩
  refine WL.restQ 1 [0] (L' := [(0, .pointer (some ⟨b1, 0, none⟩))]) (by kernel_rfl) ?_
  refine WP.seqR ?_
  refine WL.op (op := .buildSlice 32 2 #[(0, (.const (.int .i64 2))), (1, (.const (.int .i64 0)))]) (ty := 32) (d := some 1) (g := none) (by kernel_rfl) (by kernel_rfl) (by kernel_rfl) (Does.new (o := .cells #[.int .i64 2, .int .i64 0] 3 (0, 0)) (v := fun r => .slice (some ⟨r, 0, none⟩) 2 2) (fun r => by kernel_rfl)) ?_
  rintro _ _ _ ⟨b2, rfl, rfl, rfl⟩
  have Ho4 : Ow (kInt .i64) G (some ⟨b2, 0, none⟩) 2 ([2, 0] : List Int) [(b2, .cells #[.int .i64 2, .int .i64 0] 3 (0, 0))] := Ow.lit (kd := (kInt .i64)) (G := G) (b := b2) (T := 3) (xs := ([2, 0] : List Int)) (cs := [.int .i64 2, .int .i64 0]) (.cons (x := 2) (cs := [.int .i64 2]) (by exact rfl) (.cons (x := 0) (cs := [.int .i64 0]) (by exact rfl) .nil))
  refine WL.op (op := .buildSlice 32 2 #[(0, (.const (.int .i64 1))), (1, (.const (.int .i64 0)))]) (ty := 32) (d := some 2) (g := none) (by kernel_rfl) (by kernel_rfl) (by kernel_rfl) (Does.new (o := .cells #[.int .i64 1, .int .i64 0] 3 (0, 0)) (v := fun r => .slice (some ⟨r, 0, none⟩) 2 2) (fun r => by kernel_rfl)) ?_
  rintro _ _ _ ⟨b5, rfl, rfl, rfl⟩
  have Ho7 : Ow (kInt .i64) G (some ⟨b5, 0, none⟩) 2 ([1, 0] : List Int) [(b5, .cells #[.int .i64 1, .int .i64 0] 3 (0, 0))] := Ow.lit (kd := (kInt .i64)) (G := G) (b := b5) (T := 3) (xs := ([1, 0] : List Int)) (cs := [.int .i64 1, .int .i64 0]) (.cons (x := 1) (cs := [.int .i64 1]) (by exact rfl) (.cons (x := 0) (cs := [.int .i64 0]) (by exact rfl) .nil))
  refine WL.pure 2 3 [0, 3] (L' := [(0, .pointer (some ⟨b1, 0, none⟩)), (3, .agg #[.int .i64 1, .slice (some ⟨b2, 0, none⟩) ([2, 0] : List Int).length 2, .slice (some ⟨b5, 0, none⟩) ([1, 0] : List Int).length 2, .int .i64 0, .int .i64 0, .int .i64 0, .int .i64 0, .string (⟨#[]⟩ : ByteArray)])]) (by kernel_rfl) (by decide) ?_
  refine WL.op (op := .store 41 (.tmp 0) (.tmp 3)) (ty := 0) (d := none) (g := none) (by kernel_rfl) (by kernel_rfl) (by kernel_rfl) (Does.store_box (i := 2) (b := b1) (o := 0) (v := .agg #[.int .i64 1, .slice (some ⟨b2, 0, none⟩) ([2, 0] : List Int).length 2, .slice (some ⟨b5, 0, none⟩) ([1, 0] : List Int).length 2, .int .i64 0, .int .i64 0, .int .i64 0, .int .i64 0, .string (⟨#[]⟩ : ByteArray)]) (by rfl) sz41 (by kernel_rfl) (by kernel_rfl) (by kernel_rfl) (Free.zero _) (Nat.le_of_ble_eq_true rfl) (cells' := #[.int .i64 1, .slice (some ⟨b2, 0, none⟩) ([2, 0] : List Int).length 2, .slice (some ⟨b5, 0, none⟩) ([1, 0] : List Int).length 2, .int .i64 0, .int .i64 0, .int .i64 0, .int .i64 0, .string (⟨#[]⟩ : ByteArray)]) (by kernel_rfl)) ?_
  rintro _ _ _ ⟨rfl, rfl, rfl⟩
  refine WL.restQ 4 [0] (L' := [(0, .pointer (some ⟨b1, 0, none⟩))]) (by kernel_rfl) ?_
  refine WP.ret ?_
  obtain rfl := Option.some.inj h
  refine QP.front (i := 2) rfl ?_
  refine QP.front (i := 1) rfl ?_
  refine QP.front (i := 2) rfl ?_
  exact QP.returnedM (rs := [.cell 0 41]) (by kernel_rfl) (ResAll.cons (Res1.box (p := 0) (i := 2) (o := 0) (agg := true) (by rfl) ag41 (by kernel_rfl) (fun h => by cases h) (Nat.le_of_ble_eq_true rfl) (v := .agg #[.int .i64 1, .slice (some ⟨b2, 0, none⟩) ([2, 0] : List Int).length 2, .slice (some ⟨b5, 0, none⟩) ([1, 0] : List Int).length 2, .int .i64 0, .int .i64 0, .int .i64 0, .int .i64 0, .string (⟨#[]⟩ : ByteArray)]) (by kernel_rfl)) ResAll.nil) (by kernel_rfl) (fun W hI => ⟨_, _, _, rfl, ⟨(some ⟨b2, 0, none⟩), 2, [(b2, .cells #[.int .i64 2, .int .i64 0] 3 (0, 0))], (some ⟨b5, 0, none⟩), 2, [(b5, .cells #[.int .i64 1, .int .i64 0] 3 (0, 0))], rfl, Ho4, Ho7, rfl, rfl⟩, (hI.less 2 rfl)⟩)

/-! ### grapevine/segment.May: function 18 -/
def segment_May (k : Nat) (a0 : T41) (a1 : Int) : Option Bool := (if a0.f0 = 1 then ((if (⟨a0.f3, a0.f4, a0.f5, a0.f6, a0.f7⟩ : T39) = (⟨0, 0, 0, 0, (⟨#[]⟩ : ByteArray)⟩ : T39) then ((vector_May k a0.f1 a1).bind fun t6 => (if t6 = true then ((vector_May k a0.f2 a1).bind fun t11 => (if t11 = true then ((vector_Below k a0.f2 a0.f1).bind fun t16 => some t16) else some false)) else some false)) else some false).bind fun s3 => some s3) else (if a0.f0 = 3 then ((if (⟨a0.f3, a0.f4, a0.f5, a0.f6, a0.f7⟩ : T39) = (⟨0, 0, 0, 0, (⟨#[]⟩ : ByteArray)⟩ : T39) then (if (a0.f1.length : Int) = 0 then ((vector_May k a0.f2 a1).bind fun t25 => some t25) else some false) else some false).bind fun s21 => some s21) else (if a0.f0 = 2 then ((if (a0.f1.length : Int) = 0 then (if (a0.f2.length : Int) = 0 then (if a1 ≥ 1 then (if a1 ≤ 8 then (if a0.f3 < a1 then ((record_May (⟨a0.f3, a0.f4, a0.f5, a0.f6, a0.f7⟩ : T39)).bind fun t37 => some t37) else some false) else some false) else some false) else some false) else some false).bind fun s30 => some s30) else some false)))
set_option maxHeartbeats 4000000 in
theorem segment_May_calls {B : World} {G : GMap} {Γ : List Chunk} {W : World} (HT : Tabs B G) (k : Nat) (a0 : T41) (a1 : Int) (Aa0_f1 : Option Addr) (ca0_f1 : Nat) (Ha0_f1 : Rd (kInt .i64) G Aa0_f1 ca0_f1 a0.f1) (Aa0_f2 : Option Addr) (ca0_f2 : Nat) (Ha0_f2 : Rd (kInt .i64) G Aa0_f2 ca0_f2 a0.f2) (r : Bool) (h : segment_May k a0 a1 = some r) (hI : Inv B G (Γ) W) :
    Calls Tryd.prog 18 [.agg #[.int .i64 a0.f0, .slice Aa0_f1 a0.f1.length ca0_f1, .slice Aa0_f2 a0.f2.length ca0_f2, .int .i64 a0.f3, .int .i64 a0.f4, .int .i64 a0.f5, .int .i64 a0.f6, .string a0.f7], .int .i64 a1].toArray W (Ret B (fun v G' Γ' => v = .bool r ∧ G = G' ∧ Γ = Γ')) := by
  refine calls_WP (Γ := Γ) (G := G) (B := B) Tryd.func18 rfl (by kernel_rfl) ?_ hI
  clear hI
  unfold segment_May at h
  refine WP.seqR ?_
  refine WL.op (op := .box 41 (.tmp 0)) (ty := 0) (d := some 2) (g := none) (by kernel_rfl) (by kernel_rfl) (by kernel_rfl) (Does.new (o := .cells #[.int .i64 a0.f0, .slice Aa0_f1 a0.f1.length ca0_f1, .slice Aa0_f2 a0.f2.length ca0_f2, .int .i64 a0.f3, .int .i64 a0.f4, .int .i64 a0.f5, .int .i64 a0.f6, .string a0.f7] 41 (0, 0)) (v := fun r => .pointer (some ⟨r, 0, none⟩)) (fun r => by kernel_rfl)) ?_
  rintro _ _ _ ⟨b1, rfl, rfl, rfl⟩
  refine WL.restQ 1 [1, 2] (L' := [(1, .int .i64 a1), (2, .pointer (some ⟨b1, 0, none⟩))]) (by kernel_rfl) ?_
  refine WP.seqR ?_
  refine WL.pure 0 1 [1, 2, 6] (L' := [(1, .int .i64 a1), (2, .pointer (some ⟨b1, 0, none⟩)), (6, .pointer (some ⟨b1, 3, none⟩))]) (by kernel_rfl) (by decide) ?_
  refine WL.tell (op := .load 39 (.tmp 6)) (ty := 39) (d := some 7) (g := none) (by kernel_rfl) (by kernel_rfl) (by kernel_rfl) (Tells.load_box (i := 0) (b := b1) (o := 3) (agg := true) (by rfl) ag39 (by kernel_rfl) (fun h => by cases h) (Nat.le_of_ble_eq_true rfl) (v := .agg #[.int .i64 a0.f3, .int .i64 a0.f4, .int .i64 a0.f5, .int .i64 a0.f6, .string a0.f7]) (by kernel_rfl)) ?_
  refine WL.pure 2 3 [1, 2, 7, 8] (L' := [(1, .int .i64 a1), (2, .pointer (some ⟨b1, 0, none⟩)), (7, .agg #[.int .i64 a0.f3, .int .i64 a0.f4, .int .i64 a0.f5, .int .i64 a0.f6, .string a0.f7]), (8, .agg #[.int .i64 0, .int .i64 0, .int .i64 0, .int .i64 0, .string (⟨#[]⟩ : ByteArray)])]) (by kernel_rfl) (by decide) ?_
  refine WL.tell (op := .binOp .eql 39 (.tmp 7) (.tmp 8) 39) (ty := 4) (d := some 9) (g := none) (by kernel_rfl) (by kernel_rfl) (by kernel_rfl) (Tells.eqAgg (xs := #[.int .i64 a0.f3, .int .i64 a0.f4, .int .i64 a0.f5, .int .i64 a0.f6, .string a0.f7]) (ys := #[.int .i64 0, .int .i64 0, .int .i64 0, .int .i64 0, .string (⟨#[]⟩ : ByteArray)]) (ls := [.int a0.f3 0, .int a0.f4 0, .int a0.f5 0, .int a0.f6 0, .str a0.f7 (⟨#[]⟩ : ByteArray)]) (by kernel_rfl) (by kernel_rfl) (by kernel_rfl) eg39) ?_
  refine WL.reput 9 (v := .bool ([.int a0.f3 0, .int a0.f4 0, .int a0.f5 0, .int a0.f6 0, .str a0.f7 (⟨#[]⟩ : ByteArray)].all Lf.ok)) (v' := .bool (decide ((⟨a0.f3, a0.f4, a0.f5, a0.f6, a0.f7⟩ : T39) = (⟨0, 0, 0, 0, (⟨#[]⟩ : ByteArray)⟩ : T39)))) (by kernel_rfl) (by exact (congrArg Value.bool (eqT39 (⟨a0.f3, a0.f4, a0.f5, a0.f6, a0.f7⟩ : T39) (⟨0, 0, 0, 0, (⟨#[]⟩ : ByteArray)⟩ : T39)))) ?_
  refine WL.restQ 4 [1, 2, 5] (L' := [(1, .int .i64 a1), (2, .pointer (some ⟨b1, 0, none⟩)), (5, .bool (decide ((⟨a0.f3, a0.f4, a0.f5, a0.f6, a0.f7⟩ : T39) = (⟨0, 0, 0, 0, (⟨#[]⟩ : ByteArray)⟩ : T39))))]) (by kernel_rfl) ?_
  refine WP.seq ?_
  refine WP.seqR ?_
  refine WL.pure 0 1 [1, 2, 5, 10] (L' := [(1, .int .i64 a1), (2, .pointer (some ⟨b1, 0, none⟩)), (5, .bool (decide ((⟨a0.f3, a0.f4, a0.f5, a0.f6, a0.f7⟩ : T39) = (⟨0, 0, 0, 0, (⟨#[]⟩ : ByteArray)⟩ : T39)))), (10, .pointer (some ⟨b1, 0, none⟩))]) (by kernel_rfl) (by decide) ?_
  refine WL.tell (op := .load 3 (.tmp 10)) (ty := 3) (d := some 11) (g := none) (by kernel_rfl) (by kernel_rfl) (by kernel_rfl) (Tells.load_box (i := 0) (b := b1) (o := 0) (agg := false) (by rfl) ag3 (by kernel_rfl) (fun _ => rfl) (Nat.le_of_ble_eq_true rfl) (v := .int .i64 a0.f0) (by kernel_rfl)) ?_
  refine WL.restQ 2 [1, 2, 5, 11] (L' := [(1, .int .i64 a1), (2, .pointer (some ⟨b1, 0, none⟩)), (5, .bool (decide ((⟨a0.f3, a0.f4, a0.f5, a0.f6, a0.f7⟩ : T39) = (⟨0, 0, 0, 0, (⟨#[]⟩ : ByteArray)⟩ : T39)))), (11, .int .i64 a0.f0)]) (by kernel_rfl) ?_
  refine WP.block ?_
  refine WP.seqP [1, 2, 5, 11, 12] (L' := [(1, .int .i64 a1), (2, .pointer (some ⟨b1, 0, none⟩)), (5, .bool (decide ((⟨a0.f3, a0.f4, a0.f5, a0.f6, a0.f7⟩ : T39) = (⟨0, 0, 0, 0, (⟨#[]⟩ : ByteArray)⟩ : T39)))), (11, .int .i64 a0.f0), (12, .bool (a0.f0 == 1))]) (by kernel_rfl) ?_
  refine WP.cond (b := (a0.f0 == 1)) (by kernel_rfl) (fun hc => ?_) (fun hc => ?_)
  · replace hc := eq_of_beq hc
    rw [if_pos hc] at h
    have hc2 := hc
    clear hc
    rw [Option.bind_eq_some_iff] at h
    obtain ⟨os3, h, hk4⟩ := h
    refine WP.cut (fun L' G' Γ' => ∃ s3 : Bool, s3 = os3 ∧ L' = [(4, .bool s3)] ∧ G = G' ∧ Γ = Γ') ?_ ?_
    · clear hk4
      refine WP.region ?_
      refine WL.pure 0 2 [1, 2, 15] (L' := [(1, .int .i64 a1), (2, .pointer (some ⟨b1, 0, none⟩)), (15, .bool (decide ((⟨a0.f3, a0.f4, a0.f5, a0.f6, a0.f7⟩ : T39) = (⟨0, 0, 0, 0, (⟨#[]⟩ : ByteArray)⟩ : T39))))]) (by kernel_rfl) (by decide) ?_
      refine WL.split 15 (b := decide ((⟨a0.f3, a0.f4, a0.f5, a0.f6, a0.f7⟩ : T39) = (⟨0, 0, 0, 0, (⟨#[]⟩ : ByteArray)⟩ : T39))) (by kernel_rfl) (fun hc => ?_) (fun hc => ?_)
      · replace hc := of_decide_eq_true hc
        rw [if_pos hc] at h
        have hc5 := hc
        clear hc
        refine WL.pure 2 3 [1, 2, 15, 16] (L' := [(1, .int .i64 a1), (2, .pointer (some ⟨b1, 0, none⟩)), (15, .bool true), (16, .pointer (some ⟨b1, 1, none⟩))]) (by kernel_rfl) (by decide) ?_
        refine WL.tell (op := .load 32 (.tmp 16)) (ty := 32) (d := some 17) (g := some (1, true)) (by kernel_rfl) (by kernel_rfl) (by kernel_rfl) (Tells.load_box (i := 0) (b := b1) (o := 1) (agg := false) (by rfl) ag32 (by kernel_rfl) (fun _ => rfl) (Nat.le_of_ble_eq_true rfl) (v := .slice Aa0_f1 a0.f1.length ca0_f1) (by kernel_rfl)) ?_
        refine WL.pure 4 5 [1, 2, 15, 17, 18] (L' := [(1, .int .i64 a1), (2, .pointer (some ⟨b1, 0, none⟩)), (15, .bool true), (17, .slice Aa0_f1 a0.f1.length ca0_f1), (18, .int .i64 a1)]) (by kernel_rfl) (by decide) ?_
        rw [Option.bind_eq_some_iff] at h
        obtain ⟨t6, ht7, h⟩ := h
        refine WL.op (op := .call { callee := (.value (.func 43)), args := #[(.tmp 17), (.tmp 18)], argTypes := #[32, 3] }) (ty := 4) (d := some 19) (g := some (1, true)) (by kernel_rfl) (by kernel_rfl) (by kernel_rfl) (Does.call (f := 43) (args := [.slice Aa0_f1 a0.f1.length ca0_f1, .int .i64 a1]) (by kernel_rfl) (fun W hI => (vector_May_calls k a0.f1 a1 Aa0_f1 ca0_f1 Ha0_f1 t6 ht7 hI))) ?_
        rintro _ _ _ ⟨rfl, rfl, rfl⟩
        refine WL.pure 6 8 [1, 2, 21] (L' := [(1, .int .i64 a1), (2, .pointer (some ⟨b1, 0, none⟩)), (21, .bool t6)]) (by kernel_rfl) (by decide) ?_
        refine WL.split 21 (b := t6) (by kernel_rfl) (fun hc => ?_) (fun hc => ?_)
        · replace hc := hc
          rw [if_pos hc] at h
          have hc10 := hc
          clear hc
          refine WL.pure 8 9 [1, 2, 21, 22] (L' := [(1, .int .i64 a1), (2, .pointer (some ⟨b1, 0, none⟩)), (21, .bool true), (22, .pointer (some ⟨b1, 2, none⟩))]) (by kernel_rfl) (by decide) ?_
          refine WL.tell (op := .load 32 (.tmp 22)) (ty := 32) (d := some 23) (g := some (7, true)) (by kernel_rfl) (by kernel_rfl) (by kernel_rfl) (Tells.load_box (i := 0) (b := b1) (o := 2) (agg := false) (by rfl) ag32 (by kernel_rfl) (fun _ => rfl) (Nat.le_of_ble_eq_true rfl) (v := .slice Aa0_f2 a0.f2.length ca0_f2) (by kernel_rfl)) ?_
          refine WL.pure 10 11 [2, 21, 23, 24] (L' := [(2, .pointer (some ⟨b1, 0, none⟩)), (21, .bool true), (23, .slice Aa0_f2 a0.f2.length ca0_f2), (24, .int .i64 a1)]) (by kernel_rfl) (by decide) ?_
          rw [Option.bind_eq_some_iff] at h
          obtain ⟨t11, ht12, h⟩ := h
          refine WL.op (op := .call { callee := (.value (.func 43)), args := #[(.tmp 23), (.tmp 24)], argTypes := #[32, 3] }) (ty := 4) (d := some 25) (g := some (7, true)) (by kernel_rfl) (by kernel_rfl) (by kernel_rfl) (Does.call (f := 43) (args := [.slice Aa0_f2 a0.f2.length ca0_f2, .int .i64 a1]) (by kernel_rfl) (fun W hI => (vector_May_calls k a0.f2 a1 Aa0_f2 ca0_f2 Ha0_f2 t11 ht12 hI))) ?_
          rintro _ _ _ ⟨rfl, rfl, rfl⟩
          refine WL.pure 12 14 [2, 27] (L' := [(2, .pointer (some ⟨b1, 0, none⟩)), (27, .bool t11)]) (by kernel_rfl) (by decide) ?_
          refine WL.split 27 (b := t11) (by kernel_rfl) (fun hc => ?_) (fun hc => ?_)
          · replace hc := hc
            rw [if_pos hc] at h
            have hc15 := hc
            clear hc
            refine WL.pure 14 15 [2, 27, 28] (L' := [(2, .pointer (some ⟨b1, 0, none⟩)), (27, .bool true), (28, .pointer (some ⟨b1, 2, none⟩))]) (by kernel_rfl) (by decide) ?_
            refine WL.tell (op := .load 32 (.tmp 28)) (ty := 32) (d := some 29) (g := some (13, true)) (by kernel_rfl) (by kernel_rfl) (by kernel_rfl) (Tells.load_box (i := 0) (b := b1) (o := 2) (agg := false) (by rfl) ag32 (by kernel_rfl) (fun _ => rfl) (Nat.le_of_ble_eq_true rfl) (v := .slice Aa0_f2 a0.f2.length ca0_f2) (by kernel_rfl)) ?_
            refine WL.pure 16 17 [27, 29, 30] (L' := [(27, .bool true), (29, .slice Aa0_f2 a0.f2.length ca0_f2), (30, .pointer (some ⟨b1, 1, none⟩))]) (by kernel_rfl) (by decide) ?_
            refine WL.tell (op := .load 32 (.tmp 30)) (ty := 32) (d := some 31) (g := some (13, true)) (by kernel_rfl) (by kernel_rfl) (by kernel_rfl) (Tells.load_box (i := 0) (b := b1) (o := 1) (agg := false) (by rfl) ag32 (by kernel_rfl) (fun _ => rfl) (Nat.le_of_ble_eq_true rfl) (v := .slice Aa0_f1 a0.f1.length ca0_f1) (by kernel_rfl)) ?_
            rw [Option.bind_eq_some_iff] at h
            obtain ⟨t16, ht17, h⟩ := h
            refine WL.op (op := .call { callee := (.value (.func 44)), args := #[(.tmp 29), (.tmp 31)], argTypes := #[32, 32] }) (ty := 4) (d := some 32) (g := some (13, true)) (by kernel_rfl) (by kernel_rfl) (by kernel_rfl) (Does.call (f := 44) (args := [.slice Aa0_f2 a0.f2.length ca0_f2, .slice Aa0_f1 a0.f1.length ca0_f1]) (by kernel_rfl) (fun W hI => (vector_Below_calls k a0.f2 a0.f1 Aa0_f2 ca0_f2 Ha0_f2 Aa0_f1 ca0_f1 Ha0_f1 t16 ht17 hI))) ?_
            rintro _ _ _ ⟨rfl, rfl, rfl⟩
            refine WL.rest 19 [4] (L' := [(4, .bool t16)]) (by kernel_rfl) ?_
            refine QP.dropAt 0 ?_
            refine QP.pick [4] ?_
            exact QP.meet ⟨_, Option.some.inj h, rfl, rfl, rfl⟩
          · replace hc := (Bool.eq_false_iff.1 hc)
            rw [if_neg hc] at h
            have hc15 := hc
            clear hc
            refine WL.rest 14 [4] (L' := [(4, .bool false)]) (by kernel_rfl) ?_
            refine QP.dropAt 0 ?_
            refine QP.pick [4] ?_
            exact QP.meet ⟨_, Option.some.inj h, rfl, rfl, rfl⟩
        · replace hc := (Bool.eq_false_iff.1 hc)
          rw [if_neg hc] at h
          have hc10 := hc
          clear hc
          refine WL.rest 8 [4] (L' := [(4, .bool false)]) (by kernel_rfl) ?_
          refine QP.dropAt 0 ?_
          refine QP.pick [4] ?_
          exact QP.meet ⟨_, Option.some.inj h, rfl, rfl, rfl⟩
      · replace hc := of_decide_eq_false hc
        rw [if_neg hc] at h
        have hc5 := hc
        clear hc
        refine WL.rest 2 [4] (L' := [(4, .bool false)]) (by kernel_rfl) ?_
        refine QP.dropAt 0 ?_
        refine QP.pick [4] ?_
        exact QP.meet ⟨_, Option.some.inj h, rfl, rfl, rfl⟩
    · rintro _ _ _ ⟨s3, rfl, rfl, rfl, rfl⟩
      clear h
      replace h := hk4
      refine WP.ret ?_
      refine QP.blockR ?_
      refine QP.thenR ?_
      obtain rfl := Option.some.inj h
      exact QP.returned [4] [.bool s3] _ (by kernel_rfl) (by kernel_rfl) (by kernel_rfl) (fun W hI => ⟨_, _, _, rfl, ⟨rfl, rfl, rfl⟩, hI⟩)
  · replace hc := ne_of_beq_false hc
    rw [if_neg hc] at h
    have hc2 := hc
    clear hc
    refine WP.seqP [1, 2, 5, 11, 34] (L' := [(1, .int .i64 a1), (2, .pointer (some ⟨b1, 0, none⟩)), (5, .bool (decide ((⟨a0.f3, a0.f4, a0.f5, a0.f6, a0.f7⟩ : T39) = (⟨0, 0, 0, 0, (⟨#[]⟩ : ByteArray)⟩ : T39)))), (11, .int .i64 a0.f0), (34, .bool (a0.f0 == 3))]) (by kernel_rfl) ?_
    refine WP.cond (b := (a0.f0 == 3)) (by kernel_rfl) (fun hc => ?_) (fun hc => ?_)
    · replace hc := eq_of_beq hc
      rw [if_pos hc] at h
      have hc20 := hc
      clear hc
      rw [Option.bind_eq_some_iff] at h
      obtain ⟨os21, h, hk22⟩ := h
      refine WP.cut (fun L' G' Γ' => ∃ s21 : Bool, s21 = os21 ∧ L' = [(4, .bool s21)] ∧ G = G' ∧ Γ = Γ') ?_ ?_
      · clear hk22
        refine WP.region ?_
        refine WL.pure 0 2 [1, 2, 37] (L' := [(1, .int .i64 a1), (2, .pointer (some ⟨b1, 0, none⟩)), (37, .bool (decide ((⟨a0.f3, a0.f4, a0.f5, a0.f6, a0.f7⟩ : T39) = (⟨0, 0, 0, 0, (⟨#[]⟩ : ByteArray)⟩ : T39))))]) (by kernel_rfl) (by decide) ?_
        refine WL.split 37 (b := decide ((⟨a0.f3, a0.f4, a0.f5, a0.f6, a0.f7⟩ : T39) = (⟨0, 0, 0, 0, (⟨#[]⟩ : ByteArray)⟩ : T39))) (by kernel_rfl) (fun hc => ?_) (fun hc => ?_)
        · replace hc := of_decide_eq_true hc
          rw [if_pos hc] at h
          have hc23 := hc
          clear hc
          refine WL.pure 2 3 [1, 2, 37, 38] (L' := [(1, .int .i64 a1), (2, .pointer (some ⟨b1, 0, none⟩)), (37, .bool true), (38, .pointer (some ⟨b1, 1, none⟩))]) (by kernel_rfl) (by decide) ?_
          refine WL.tell (op := .load 32 (.tmp 38)) (ty := 32) (d := some 39) (g := some (1, true)) (by kernel_rfl) (by kernel_rfl) (by kernel_rfl) (Tells.load_box (i := 0) (b := b1) (o := 1) (agg := false) (by rfl) ag32 (by kernel_rfl) (fun _ => rfl) (Nat.le_of_ble_eq_true rfl) (v := .slice Aa0_f1 a0.f1.length ca0_f1) (by kernel_rfl)) ?_
          refine WL.pure 4 8 [1, 2, 43] (L' := [(1, .int .i64 a1), (2, .pointer (some ⟨b1, 0, none⟩)), (43, .bool ((a0.f1.length : Int) == 0))]) (by kernel_rfl) (by decide) ?_
          refine WL.split 43 (b := ((a0.f1.length : Int) == 0)) (by kernel_rfl) (fun hc => ?_) (fun hc => ?_)
          · replace hc := eq_of_beq hc
            rw [if_pos hc] at h
            have hc24 := hc
            clear hc
            refine WL.pure 8 9 [1, 43, 44] (L' := [(1, .int .i64 a1), (43, .bool true), (44, .pointer (some ⟨b1, 2, none⟩))]) (by kernel_rfl) (by decide) ?_
            refine WL.tell (op := .load 32 (.tmp 44)) (ty := 32) (d := some 45) (g := some (7, true)) (by kernel_rfl) (by kernel_rfl) (by kernel_rfl) (Tells.load_box (i := 0) (b := b1) (o := 2) (agg := false) (by rfl) ag32 (by kernel_rfl) (fun _ => rfl) (Nat.le_of_ble_eq_true rfl) (v := .slice Aa0_f2 a0.f2.length ca0_f2) (by kernel_rfl)) ?_
            refine WL.pure 10 11 [43, 45, 46] (L' := [(43, .bool true), (45, .slice Aa0_f2 a0.f2.length ca0_f2), (46, .int .i64 a1)]) (by kernel_rfl) (by decide) ?_
            rw [Option.bind_eq_some_iff] at h
            obtain ⟨t25, ht26, h⟩ := h
            refine WL.op (op := .call { callee := (.value (.func 43)), args := #[(.tmp 45), (.tmp 46)], argTypes := #[32, 3] }) (ty := 4) (d := some 47) (g := some (7, true)) (by kernel_rfl) (by kernel_rfl) (by kernel_rfl) (Does.call (f := 43) (args := [.slice Aa0_f2 a0.f2.length ca0_f2, .int .i64 a1]) (by kernel_rfl) (fun W hI => (vector_May_calls k a0.f2 a1 Aa0_f2 ca0_f2 Ha0_f2 t25 ht26 hI))) ?_
            rintro _ _ _ ⟨rfl, rfl, rfl⟩
            refine WL.rest 12 [4] (L' := [(4, .bool t25)]) (by kernel_rfl) ?_
            refine QP.dropAt 0 ?_
            refine QP.pick [4] ?_
            exact QP.meet ⟨_, Option.some.inj h, rfl, rfl, rfl⟩
          · replace hc := ne_of_beq_false hc
            rw [if_neg hc] at h
            have hc24 := hc
            clear hc
            refine WL.rest 8 [4] (L' := [(4, .bool false)]) (by kernel_rfl) ?_
            refine QP.dropAt 0 ?_
            refine QP.pick [4] ?_
            exact QP.meet ⟨_, Option.some.inj h, rfl, rfl, rfl⟩
        · replace hc := of_decide_eq_false hc
          rw [if_neg hc] at h
          have hc23 := hc
          clear hc
          refine WL.rest 2 [4] (L' := [(4, .bool false)]) (by kernel_rfl) ?_
          refine QP.dropAt 0 ?_
          refine QP.pick [4] ?_
          exact QP.meet ⟨_, Option.some.inj h, rfl, rfl, rfl⟩
      · rintro _ _ _ ⟨s21, rfl, rfl, rfl, rfl⟩
        clear h
        replace h := hk22
        refine WP.ret ?_
        refine QP.blockR ?_
        refine QP.thenR ?_
        obtain rfl := Option.some.inj h
        exact QP.returned [4] [.bool s21] _ (by kernel_rfl) (by kernel_rfl) (by kernel_rfl) (fun W hI => ⟨_, _, _, rfl, ⟨rfl, rfl, rfl⟩, hI⟩)
    · replace hc := ne_of_beq_false hc
      rw [if_neg hc] at h
      have hc20 := hc
      clear hc
      refine WP.seqP [1, 2, 49] (L' := [(1, .int .i64 a1), (2, .pointer (some ⟨b1, 0, none⟩)), (49, .bool (a0.f0 == 2))]) (by kernel_rfl) ?_
      refine WP.cond (b := (a0.f0 == 2)) (by kernel_rfl) (fun hc => ?_) (fun hc => ?_)
      · replace hc := eq_of_beq hc
        rw [if_pos hc] at h
        have hc29 := hc
        clear hc
        rw [Option.bind_eq_some_iff] at h
        obtain ⟨os30, h, hk31⟩ := h
        refine WP.cut (fun L' G' Γ' => ∃ s30 : Bool, s30 = os30 ∧ L' = [(4, .bool s30)] ∧ G = G' ∧ Γ = Γ') ?_ ?_
        · clear hk31
          refine WP.region ?_
          refine WL.pure 0 1 [1, 2, 51] (L' := [(1, .int .i64 a1), (2, .pointer (some ⟨b1, 0, none⟩)), (51, .pointer (some ⟨b1, 1, none⟩))]) (by kernel_rfl) (by decide) ?_
          refine WL.tell (op := .load 32 (.tmp 51)) (ty := 32) (d := some 52) (g := none) (by kernel_rfl) (by kernel_rfl) (by kernel_rfl) (Tells.load_box (i := 0) (b := b1) (o := 1) (agg := false) (by rfl) ag32 (by kernel_rfl) (fun _ => rfl) (Nat.le_of_ble_eq_true rfl) (v := .slice Aa0_f1 a0.f1.length ca0_f1) (by kernel_rfl)) ?_
          refine WL.pure 2 5 [1, 2, 55] (L' := [(1, .int .i64 a1), (2, .pointer (some ⟨b1, 0, none⟩)), (55, .bool ((a0.f1.length : Int) == 0))]) (by kernel_rfl) (by decide) ?_
          refine WL.split 55 (b := ((a0.f1.length : Int) == 0)) (by kernel_rfl) (fun hc => ?_) (fun hc => ?_)
          · replace hc := eq_of_beq hc
            rw [if_pos hc] at h
            have hc32 := hc
            clear hc
            refine WL.pure 5 6 [1, 2, 55, 56] (L' := [(1, .int .i64 a1), (2, .pointer (some ⟨b1, 0, none⟩)), (55, .bool true), (56, .pointer (some ⟨b1, 2, none⟩))]) (by kernel_rfl) (by decide) ?_
            refine WL.tell (op := .load 32 (.tmp 56)) (ty := 32) (d := some 57) (g := some (4, true)) (by kernel_rfl) (by kernel_rfl) (by kernel_rfl) (Tells.load_box (i := 0) (b := b1) (o := 2) (agg := false) (by rfl) ag32 (by kernel_rfl) (fun _ => rfl) (Nat.le_of_ble_eq_true rfl) (v := .slice Aa0_f2 a0.f2.length ca0_f2) (by kernel_rfl)) ?_
            refine WL.pure 7 11 [1, 2, 61] (L' := [(1, .int .i64 a1), (2, .pointer (some ⟨b1, 0, none⟩)), (61, .bool ((a0.f2.length : Int) == 0))]) (by kernel_rfl) (by decide) ?_
            refine WL.split 61 (b := ((a0.f2.length : Int) == 0)) (by kernel_rfl) (fun hc => ?_) (fun hc => ?_)
            · replace hc := eq_of_beq hc
              rw [if_pos hc] at h
              have hc33 := hc
              clear hc
              refine WL.pure 11 15 [1, 2, 65] (L' := [(1, .int .i64 a1), (2, .pointer (some ⟨b1, 0, none⟩)), (65, .bool (decide (a1 ≥ 1)))]) (by kernel_rfl) (by decide) ?_
              refine WL.split 65 (b := decide (a1 ≥ 1)) (by kernel_rfl) (fun hc => ?_) (fun hc => ?_)
              · replace hc := of_decide_eq_true hc
                rw [if_pos hc] at h
                have hc34 := hc
                clear hc
                refine WL.pure 15 19 [1, 2, 69] (L' := [(1, .int .i64 a1), (2, .pointer (some ⟨b1, 0, none⟩)), (69, .bool (decide (a1 ≤ 8)))]) (by kernel_rfl) (by decide) ?_
                refine WL.split 69 (b := decide (a1 ≤ 8)) (by kernel_rfl) (fun hc => ?_) (fun hc => ?_)
                · replace hc := of_decide_eq_true hc
                  rw [if_pos hc] at h
                  have hc35 := hc
                  clear hc
                  refine WL.pure 19 22 [1, 2, 69, 72] (L' := [(1, .int .i64 a1), (2, .pointer (some ⟨b1, 0, none⟩)), (69, .bool true), (72, .pointer (some ⟨b1, 3, none⟩))]) (by kernel_rfl) (by decide) ?_
                  refine WL.tell (op := .load 3 (.tmp 72)) (ty := 3) (d := some 73) (g := some (18, true)) (by kernel_rfl) (by kernel_rfl) (by kernel_rfl) (Tells.load_box (i := 0) (b := b1) (o := 3) (agg := false) (by rfl) ag3 (by kernel_rfl) (fun _ => rfl) (Nat.le_of_ble_eq_true rfl) (v := .int .i64 a0.f3) (by kernel_rfl)) ?_
                  refine WL.pure 23 27 [2, 77] (L' := [(2, .pointer (some ⟨b1, 0, none⟩)), (77, .bool (decide (a0.f3 < a1)))]) (by kernel_rfl) (by decide) ?_
                  refine WL.split 77 (b := decide (a0.f3 < a1)) (by kernel_rfl) (fun hc => ?_) (fun hc => ?_)
                  · replace hc := of_decide_eq_true hc
                    rw [if_pos hc] at h
                    have hc36 := hc
                    clear hc
                    refine WL.pure 27 28 [77, 78] (L' := [(77, .bool true), (78, .pointer (some ⟨b1, 3, none⟩))]) (by kernel_rfl) (by decide) ?_
                    refine WL.tell (op := .load 39 (.tmp 78)) (ty := 39) (d := some 79) (g := some (26, true)) (by kernel_rfl) (by kernel_rfl) (by kernel_rfl) (Tells.load_box (i := 0) (b := b1) (o := 3) (agg := true) (by rfl) ag39 (by kernel_rfl) (fun h => by cases h) (Nat.le_of_ble_eq_true rfl) (v := .agg #[.int .i64 a0.f3, .int .i64 a0.f4, .int .i64 a0.f5, .int .i64 a0.f6, .string a0.f7]) (by kernel_rfl)) ?_
                    rw [Option.bind_eq_some_iff] at h
                    obtain ⟨t37, ht38, h⟩ := h
                    refine WL.op (op := .call { callee := (.value (.func 45)), args := #[(.tmp 79)], argTypes := #[39] }) (ty := 4) (d := some 80) (g := some (26, true)) (by kernel_rfl) (by kernel_rfl) (by kernel_rfl) (Does.call (f := 45) (args := [.agg #[.int .i64 a0.f3, .int .i64 a0.f4, .int .i64 a0.f5, .int .i64 a0.f6, .string a0.f7]]) (by kernel_rfl) (fun W hI => (record_May_calls HT (⟨a0.f3, a0.f4, a0.f5, a0.f6, a0.f7⟩ : T39)  t37 ht38 hI))) ?_
                    rintro _ _ _ ⟨rfl, rfl, rfl⟩
                    refine WL.rest 30 [4] (L' := [(4, .bool t37)]) (by kernel_rfl) ?_
                    refine QP.dropAt 0 ?_
                    refine QP.pick [4] ?_
                    exact QP.meet ⟨_, Option.some.inj h, rfl, rfl, rfl⟩
                  · replace hc := of_decide_eq_false hc
                    rw [if_neg hc] at h
                    have hc36 := hc
                    clear hc
                    refine WL.rest 27 [4] (L' := [(4, .bool false)]) (by kernel_rfl) ?_
                    refine QP.dropAt 0 ?_
                    refine QP.pick [4] ?_
                    exact QP.meet ⟨_, Option.some.inj h, rfl, rfl, rfl⟩
                · replace hc := of_decide_eq_false hc
                  rw [if_neg hc] at h
                  have hc35 := hc
                  clear hc
                  refine WL.rest 19 [4] (L' := [(4, .bool false)]) (by kernel_rfl) ?_
                  refine QP.dropAt 0 ?_
                  refine QP.pick [4] ?_
                  exact QP.meet ⟨_, Option.some.inj h, rfl, rfl, rfl⟩
              · replace hc := of_decide_eq_false hc
                rw [if_neg hc] at h
                have hc34 := hc
                clear hc
                refine WL.rest 15 [4] (L' := [(4, .bool false)]) (by kernel_rfl) ?_
                refine QP.dropAt 0 ?_
                refine QP.pick [4] ?_
                exact QP.meet ⟨_, Option.some.inj h, rfl, rfl, rfl⟩
            · replace hc := ne_of_beq_false hc
              rw [if_neg hc] at h
              have hc33 := hc
              clear hc
              refine WL.rest 11 [4] (L' := [(4, .bool false)]) (by kernel_rfl) ?_
              refine QP.dropAt 0 ?_
              refine QP.pick [4] ?_
              exact QP.meet ⟨_, Option.some.inj h, rfl, rfl, rfl⟩
          · replace hc := ne_of_beq_false hc
            rw [if_neg hc] at h
            have hc32 := hc
            clear hc
            refine WL.rest 5 [4] (L' := [(4, .bool false)]) (by kernel_rfl) ?_
            refine QP.dropAt 0 ?_
            refine QP.pick [4] ?_
            exact QP.meet ⟨_, Option.some.inj h, rfl, rfl, rfl⟩
        · rintro _ _ _ ⟨s30, rfl, rfl, rfl, rfl⟩
          clear h
          replace h := hk31
          refine WP.ret ?_
          refine QP.blockR ?_
          refine QP.thenR ?_
          obtain rfl := Option.some.inj h
          exact QP.returned [4] [.bool s30] _ (by kernel_rfl) (by kernel_rfl) (by kernel_rfl) (fun W hI => ⟨_, _, _, rfl, ⟨rfl, rfl, rfl⟩, hI⟩)
      · replace hc := ne_of_beq_false hc
        rw [if_neg hc] at h
        have hc29 := hc
        clear hc
        refine WP.skip ?_
        refine QP.blockN ?_
        refine QP.next ?_
        refine WP.pick [] ?_
        refine WP.seqP [4] (L' := [(4, .bool false)]) (by kernel_rfl) ?_
        refine WP.dropAt 0 ?_
        refine WP.ret ?_
        obtain rfl := Option.some.inj h
        exact QP.returned [4] [.bool false] _ (by kernel_rfl) (by kernel_rfl) (by kernel_rfl) (fun W hI => ⟨_, _, _, rfl, ⟨rfl, rfl, rfl⟩, hI⟩)

/-! ### grapevine/segment.numbers: function 46 -/
def segment_numbers_l0 (l1 : List Int) : Nat → (List Int) → Int → Option (List Int)
  | 0, _, _ => none
  | k + 1, y11, y12 => (if y12 < (l1.length : Int) then (if 0 ≤ y12 ∧ y12 < (l1.length : Int) then (if y11.length + ([IntKind.u8.wrap (shrK .i64 (l1.getD y12.toNat 0) 8), IntKind.u8.wrap (l1.getD y12.toNat 0)] : List Int).length ≤ 1073741824 then segment_numbers_l0 l1 k (y11 ++ ([IntKind.u8.wrap (shrK .i64 (l1.getD y12.toNat 0) 8), IntKind.u8.wrap (l1.getD y12.toNat 0)] : List Int)) (IntKind.i64.wrap (y12 + 1)) else none) else none) else some y11)
def segment_numbers (k : Nat) (l0 : List Int) (l1 : List Int) : Option (List Int) := (if l0.length + ([IntKind.u8.wrap (l1.length : Int)] : List Int).length ≤ 1073741824 then ((some (l0 ++ ([IntKind.u8.wrap (l1.length : Int)] : List Int))).bind fun v6 => ((segment_numbers_l0 l1 k v6 0).bind fun s9 => some s9)) else none)
set_option maxHeartbeats 4000000 in
theorem segment_numbers_calls {B : World} {G : GMap} {Γ : List Chunk} {W : World} (k : Nat) (l0 : List Int) (l1 : List Int) (Al0 : Option Addr) (cl0 : Nat) (Cl0 : Chunk) (Hl0 : Ow (kInt .u8) G Al0 cl0 l0 Cl0) (Al1 : Option Addr) (cl1 : Nat) (Hl1 : Rd (kInt .i64) G Al1 cl1 l1) (r : List Int) (h : segment_numbers k l0 l1 = some r) (hI : Inv B G (Cl0 :: Γ) W) :
    Calls Tryd.prog 46 [.slice Al0 l0.length cl0, .slice Al1 l1.length cl1].toArray W (Ret B (fun v G' Γ' => ∃ (AR : Option Addr), ∃ (cR : Nat), ∃ (CR : Chunk), v = .slice AR r.length cR ∧ Ow (kInt .u8) G' AR cR r CR ∧ G = G' ∧ CR :: Γ = Γ')) := by
  refine calls_WP (Γ := Cl0 :: Γ) (G := G) (B := B) Tryd.func46 rfl (by kernel_rfl) ?_ hI
  clear hI
  unfold segment_numbers at h
  refine WP.seqP [0, 1] (L' := [(0, .slice Al0 l0.length cl0), (1, .slice Al1 l1.length cl1)]) (by kernel_rfl) ?_
  refine WP.seqR ?_
  refine WL.pure 0 4 [0, 1, 7, 10] (L' := [(0, .slice Al0 l0.length cl0), (1, .slice Al1 l1.length cl1), (7, .slice Al0 l0.length cl0), (10, .int .u8 (IntKind.u8.wrap (l1.length : Int)))]) (by kernel_rfl) (by decide) ?_
  refine WL.op (op := .buildSlice 22 1 #[(0, (.tmp 10))]) (ty := 22) (d := some 11) (g := none) (by kernel_rfl) (by kernel_rfl) (by kernel_rfl) (Does.new (o := .cells #[.int .u8 (IntKind.u8.wrap (l1.length : Int))] 5 (0, 0)) (v := fun r => .slice (some ⟨r, 0, none⟩) 1 1) (fun r => by kernel_rfl)) ?_
  rintro _ _ _ ⟨b1, rfl, rfl, rfl⟩
  have Ho3 : Ow (kInt .u8) G (some ⟨b1, 0, none⟩) 1 ([IntKind.u8.wrap (l1.length : Int)] : List Int) [(b1, .cells #[.int .u8 (IntKind.u8.wrap (l1.length : Int))] 5 (0, 0))] := Ow.lit (kd := (kInt .u8)) (G := G) (b := b1) (T := 5) (xs := ([IntKind.u8.wrap (l1.length : Int)] : List Int)) (cs := [.int .u8 (IntKind.u8.wrap (l1.length : Int))]) (.cons (x := (IntKind.u8.wrap (l1.length : Int))) (cs := [.int .u8 (IntKind.u8.wrap (l1.length : Int))]) (by exact rfl) .nil)
  by_cases hb4 : l0.length + ([IntKind.u8.wrap (l1.length : Int)] : List Int).length ≤ 1073741824
  case neg => rw [if_neg hb4] at h; cases h
  rw [if_pos hb4] at h
  refine WL.op (op := .call { callee := (.builtin .append), args := #[(.tmp 7), (.tmp 11)], argTypes := #[22, 22] }) (ty := 22) (d := some 12) (g := none) (by kernel_rfl) (by kernel_rfl) (by kernel_rfl) (Ow.append (ys := ([IntKind.u8.wrap (l1.length : Int)] : List Int)) (v := .slice (some ⟨b1, 0, none⟩) ([IntKind.u8.wrap (l1.length : Int)] : List Int).length 1) Hl0 (i := 1) rfl (by kernel_rfl) (by kernel_rfl) (Ho3.src (i := 0) rfl) sl22 ze5 nt22 (by decide) hb4) ?_
  rintro _ _ _ ⟨rfl, AN5, cN5, CN5, rfl, HN5, rfl⟩
  refine WL.restQ 6 [0, 1] (L' := [(0, .slice AN5 (l0 ++ ([IntKind.u8.wrap (l1.length : Int)] : List Int)).length cN5), (1, .slice Al1 l1.length cl1)]) (by kernel_rfl) ?_
  obtain ⟨v6, hv7, h⟩ := Option.bind_eq_some_iff.1 h
  replace hv7 := Option.some.inj hv7
  have Hn8 := HN5
  rw [hv7] at Hn8
  refine WP.reput 0 (v := .slice AN5 (l0 ++ ([IntKind.u8.wrap (l1.length : Int)] : List Int)).length cN5) (v' := .slice AN5 v6.length cN5) (by kernel_rfl) (by subst hv7; rfl) ?_
  refine WP.pick [0, 1] ?_
  refine WP.dropAt 0 ?_
  refine WP.seq ?_
  refine WP.seqP [0, 13, 14, 15] (L' := [(0, .slice AN5 v6.length cN5), (13, .slice Al1 l1.length cl1), (14, .int .i64 (l1.length : Int)), (15, .int .i64 0)]) (by kernel_rfl) ?_
  rw [Option.bind_eq_some_iff] at h
  obtain ⟨os9, h, hk10⟩ := h
  refine WP.cutQ (fun L' G' Γ' => ∃ s9 : (List Int), s9 = os9 ∧ ∃ (As9 : Option Addr), ∃ (cs9 : Nat), ∃ (Cs9 : Chunk), L' = [(0, .slice As9 s9.length cs9)] ∧ G = G' ∧ Cs9 :: Γ = Γ' ∧ Ow (kInt .u8) G As9 cs9 s9 Cs9) ?_ ?_
  · clear hk10
    refine WP.block ?_
    refine WP.pick [0, 13, 14, 15] ?_
    refine WP.loopF (fun kn13 L' G' Γ' => ∃ (y11 : List Int), ∃ (y12 : Int), segment_numbers_l0 l1 kn13 y11 y12 = some os9 ∧ ∃ (Ay11 : Option Addr), ∃ (cy11 : Nat), ∃ (Cy11 : Chunk), L' = [(0, .slice Ay11 y11.length cy11), (13, .slice Al1 l1.length cl1), (14, .int .i64 (l1.length : Int)), (15, .int .i64 y12)] ∧ G = G' ∧ Cy11 :: Γ = Γ' ∧ Ow (kInt .u8) G Ay11 cy11 y11 Cy11) ?_ k ⟨v6, 0, h, AN5, cN5, CN5, rfl, rfl, rfl, Hn8⟩
    clear h
    rintro kn14 _ _ _ ⟨y11, y12, h, Ay11, cy11, Cy11, rfl, rfl, rfl, Hy11⟩
    cases kn14 with
    | zero => exact absurd h (by simp [segment_numbers_l0])
    | succ kn14 =>
      simp only [segment_numbers_l0] at h
      refine WP.seqP [0, 13, 14, 15, 16] (L' := [(0, .slice Ay11 y11.length cy11), (13, .slice Al1 l1.length cl1), (14, .int .i64 (l1.length : Int)), (15, .int .i64 y12), (16, .bool (decide (y12 < (l1.length : Int))))]) (by kernel_rfl) ?_
      refine WP.seq ?_
      refine WP.cond (b := decide (y12 < (l1.length : Int))) (by kernel_rfl) (fun hc => ?_) (fun hc => ?_)
      · replace hc := of_decide_eq_true hc
        rw [if_pos hc] at h
        have hc15 := hc
        clear hc
        refine WP.skip ?_
        refine QP.next ?_
        refine WP.pick [0, 13, 14, 15] ?_
        refine WP.seq ?_
        refine WP.block ?_
        refine WP.seqR ?_
        by_cases hb16 : 0 ≤ y12 ∧ y12 < (l1.length : Int)
        case neg => rw [if_neg hb16] at h; cases h
        rw [if_pos hb16] at h
        refine WL.tell (op := .indexAddr 32 (.tmp 13) (.tmp 15)) (ty := 0) (d := some 17) (g := none) (by kernel_rfl) (by kernel_rfl) (by kernel_rfl) (Tells.indexAddr (A := Al1) (n := l1.length) (c := cl1) (k := .i64) (j := y12) (by kernel_rfl) (by kernel_rfl) (Hl1.isSome hb16.1 hb16.2) hb16.1 hb16.2 sl32) ?_
        refine WL.tellE (op := .load 3 (.tmp 17)) (ty := 3) (d := some 18) (g := none) (by kernel_rfl) (by kernel_rfl) (by kernel_rfl) (Hl1.load (agg := false) hb16.1 hb16.2 0 ag3 (fun _ => rfl) (by kernel_rfl)) ?_
        rintro _ rfl
        refine WL.restQ 2 [0, 6, 13, 14, 15] (L' := [(0, .slice Ay11 y11.length cy11), (6, .int .i64 (l1.getD y12.toNat 0)), (13, .slice Al1 l1.length cl1), (14, .int .i64 (l1.length : Int)), (15, .int .i64 y12)]) (by kernel_rfl) ?_
        refine WP.region ?_
        refine WL.pure 0 6 [0, 13, 14, 15, 19, 22, 24] (L' := [(0, .slice Ay11 y11.length cy11), (13, .slice Al1 l1.length cl1), (14, .int .i64 (l1.length : Int)), (15, .int .i64 y12), (19, .slice Ay11 y11.length cy11), (22, .int .u8 (IntKind.u8.wrap (shrK .i64 (l1.getD y12.toNat 0) 8))), (24, .int .u8 (IntKind.u8.wrap (l1.getD y12.toNat 0)))]) (by kernel_rfl) (by decide) ?_
        refine WL.op (op := .buildSlice 22 2 #[(0, (.tmp 22)), (1, (.tmp 24))]) (ty := 22) (d := some 25) (g := none) (by kernel_rfl) (by kernel_rfl) (by kernel_rfl) (Does.new (o := .cells #[.int .u8 (IntKind.u8.wrap (shrK .i64 (l1.getD y12.toNat 0) 8)), .int .u8 (IntKind.u8.wrap (l1.getD y12.toNat 0))] 5 (0, 0)) (v := fun r => .slice (some ⟨r, 0, none⟩) 2 2) (fun r => by kernel_rfl)) ?_
        rintro _ _ _ ⟨b17, rfl, rfl, rfl⟩
        have Ho19 : Ow (kInt .u8) G (some ⟨b17, 0, none⟩) 2 ([IntKind.u8.wrap (shrK .i64 (l1.getD y12.toNat 0) 8), IntKind.u8.wrap (l1.getD y12.toNat 0)] : List Int) [(b17, .cells #[.int .u8 (IntKind.u8.wrap (shrK .i64 (l1.getD y12.toNat 0) 8)), .int .u8 (IntKind.u8.wrap (l1.getD y12.toNat 0))] 5 (0, 0))] := Ow.lit (kd := (kInt .u8)) (G := G) (b := b17) (T := 5) (xs := ([IntKind.u8.wrap (shrK .i64 (l1.getD y12.toNat 0) 8), IntKind.u8.wrap (l1.getD y12.toNat 0)] : List Int)) (cs := [.int .u8 (IntKind.u8.wrap (shrK .i64 (l1.getD y12.toNat 0) 8)), .int .u8 (IntKind.u8.wrap (l1.getD y12.toNat 0))]) (.cons (x := (IntKind.u8.wrap (shrK .i64 (l1.getD y12.toNat 0) 8))) (cs := [.int .u8 (IntKind.u8.wrap (shrK .i64 (l1.getD y12.toNat 0) 8))]) (by exact rfl) (.cons (x := (IntKind.u8.wrap (l1.getD y12.toNat 0))) (cs := [.int .u8 (IntKind.u8.wrap (l1.getD y12.toNat 0))]) (by exact rfl) .nil))
        by_cases hb20 : y11.length + ([IntKind.u8.wrap (shrK .i64 (l1.getD y12.toNat 0) 8), IntKind.u8.wrap (l1.getD y12.toNat 0)] : List Int).length ≤ 1073741824
        case neg => rw [if_neg hb20] at h; cases h
        rw [if_pos hb20] at h
        refine WL.op (op := .call { callee := (.builtin .append), args := #[(.tmp 19), (.tmp 25)], argTypes := #[22, 22] }) (ty := 22) (d := some 26) (g := none) (by kernel_rfl) (by kernel_rfl) (by kernel_rfl) (Ow.append (ys := ([IntKind.u8.wrap (shrK .i64 (l1.getD y12.toNat 0) 8), IntKind.u8.wrap (l1.getD y12.toNat 0)] : List Int)) (v := .slice (some ⟨b17, 0, none⟩) ([IntKind.u8.wrap (shrK .i64 (l1.getD y12.toNat 0) 8), IntKind.u8.wrap (l1.getD y12.toNat 0)] : List Int).length 2) Hy11 (i := 1) rfl (by kernel_rfl) (by kernel_rfl) (Ho19.src (i := 0) rfl) sl22 ze5 nt22 (by decide) hb20) ?_
        rintro _ _ _ ⟨rfl, AN21, cN21, CN21, rfl, HN21, rfl⟩
        refine WL.rest 8 [0, 13, 14, 15] (L' := [(0, .slice AN21 (y11 ++ ([IntKind.u8.wrap (shrK .i64 (l1.getD y12.toNat 0) 8), IntKind.u8.wrap (l1.getD y12.toNat 0)] : List Int)).length cN21), (13, .slice Al1 l1.length cl1), (14, .int .i64 (l1.length : Int)), (15, .int .i64 y12)]) (by kernel_rfl) ?_
        refine QP.blockN ?_
        refine QP.next ?_
        refine WP.pick [0, 13, 14, 15] ?_
        refine WP.regionP [0, 13, 14, 15] (L' := [(0, .slice AN21 (y11 ++ ([IntKind.u8.wrap (shrK .i64 (l1.getD y12.toNat 0) 8), IntKind.u8.wrap (l1.getD y12.toNat 0)] : List Int)).length cN21), (13, .slice Al1 l1.length cl1), (14, .int .i64 (l1.length : Int)), (15, .int .i64 (IntKind.i64.wrap (y12 + 1)))]) (by kernel_rfl) ?_
        refine QP.dropAt 0 ?_
        refine QP.pick [0, 13, 14, 15] ?_
        exact QP.meet ⟨kn14, Nat.lt_succ_self _, (y11 ++ ([IntKind.u8.wrap (shrK .i64 (l1.getD y12.toNat 0) 8), IntKind.u8.wrap (l1.getD y12.toNat 0)] : List Int)), (IntKind.i64.wrap (y12 + 1)), h, AN21, cN21, CN21, rfl, rfl, rfl, HN21⟩
      · replace hc := of_decide_eq_false hc
        rw [if_neg hc] at h
        have hc15 := hc
        clear hc
        refine WP.exit ?_
        refine QP.thenE ?_
        refine QP.thenE ?_
        refine QP.blockE ?_
        refine QP.pick [0] ?_
        exact QP.meet ⟨_, Option.some.inj h, Ay11, cy11, Cy11, rfl, rfl, rfl, Hy11⟩
  · rintro _ _ _ ⟨s9, rfl, As9, cs9, Cs9, rfl, rfl, rfl, Hs9⟩
    clear h
    replace h := hk10
    refine QP.next ?_
    refine WP.pick [0] ?_
    refine WP.seqP [4] (L' := [(4, .slice As9 s9.length cs9)]) (by kernel_rfl) ?_
    refine WP.ret ?_
    obtain rfl := Option.some.inj h
    exact QP.returned [4] [.slice As9 s9.length cs9] _ (by kernel_rfl) (by kernel_rfl) (by kernel_rfl) (fun W hI => ⟨_, _, _, rfl, ⟨As9, cs9, Cs9, rfl, Hs9, rfl, rfl⟩, hI⟩)

/-! ### grapevine/segment.Lay: function 19 -/
def segment_Lay_l0 (a0 : T41) : Nat → Bool → Int → Option Bool
  | 0, _, _ => none
  | k + 1, y4, y5 => (if y5 < 8 then ((if y4 = true then some true else ((segment_May k a0 (IntKind.i64.wrap (y5 + 1))).bind fun t12 => some t12)).bind fun s9 => segment_Lay_l0 a0 k s9 (IntKind.i64.wrap (y5 + 1))) else some y4)
def segment_Lay (k : Nat) (a0 : T41) : Option ((List Int) × Int) := ((segment_Lay_l0 a0 k false 0).bind fun s2 => (if (!s2) = true then some (([] : List Int), 2) else (if a0.f0 = 1 then ((segment_numbers k ([] : List Int) a0.f1).bind fun t18 => ((segment_numbers k t18 a0.f2).bind fun t22 => ((frame_Lay k a0.f0 t22).bind fun t26 => some (t26.1, t26.2)))) else (if a0.f0 = 3 then ((segment_numbers k ([] : List Int) a0.f2).bind fun t32 => ((frame_Lay k a0.f0 t32).bind fun t36 => some (t36.1, t36.2))) else ((record_Lay k (⟨a0.f3, a0.f4, a0.f5, a0.f6, a0.f7⟩ : T39)).bind fun t41 => ((frame_Lay k a0.f0 t41.1).bind fun t45 => some (t45.1, t45.2)))))))
set_option maxHeartbeats 4000000 in
theorem segment_Lay_calls {B : World} {G : GMap} {Γ : List Chunk} {W : World} (HT : Tabs B G) (k : Nat) (a0 : T41) (Aa0_f1 : Option Addr) (ca0_f1 : Nat) (Ha0_f1 : Rd (kInt .i64) G Aa0_f1 ca0_f1 a0.f1) (Aa0_f2 : Option Addr) (ca0_f2 : Nat) (Ha0_f2 : Rd (kInt .i64) G Aa0_f2 ca0_f2 a0.f2) (r : (List Int) × Int) (h : segment_Lay k a0 = some r) (hI : Inv B G (Γ) W) :
    Calls Tryd.prog 19 [.agg #[.int .i64 a0.f0, .slice Aa0_f1 a0.f1.length ca0_f1, .slice Aa0_f2 a0.f2.length ca0_f2, .int .i64 a0.f3, .int .i64 a0.f4, .int .i64 a0.f5, .int .i64 a0.f6, .string a0.f7]].toArray W (Ret B (fun v G' Γ' => ∃ (AR0 : Option Addr), ∃ (cR0 : Nat), ∃ (CR0 : Chunk), v = .tuple #[.slice AR0 r.1.length cR0, .int .i64 r.2] ∧ Ow (kInt .u8) G' AR0 cR0 r.1 CR0 ∧ G = G' ∧ CR0 :: Γ = Γ')) := by
  refine calls_WP (Γ := Γ) (G := G) (B := B) Tryd.func19 rfl (by kernel_rfl) ?_ hI
  clear hI
  unfold segment_Lay at h
  refine WP.seqR ?_
  refine WL.op (op := .box 41 (.tmp 0)) (ty := 0) (d := some 1) (g := none) (by kernel_rfl) (by kernel_rfl) (by kernel_rfl) (Does.new (o := .cells #[.int .i64 a0.f0, .slice Aa0_f1 a0.f1.length ca0_f1, .slice Aa0_f2 a0.f2.length ca0_f2, .int .i64 a0.f3, .int .i64 a0.f4, .int .i64 a0.f5, .int .i64 a0.f6, .string a0.f7] 41 (0, 0)) (v := fun r => .pointer (some ⟨r, 0, none⟩)) (fun r => by kernel_rfl)) ?_
  rintro _ _ _ ⟨b1, rfl, rfl, rfl⟩
  refine WL.restQ 1 [1] (L' := [(1, .pointer (some ⟨b1, 0, none⟩))]) (by kernel_rfl) ?_
  refine WP.seqP [1, 4] (L' := [(1, .pointer (some ⟨b1, 0, none⟩)), (4, .bool false)]) (by kernel_rfl) ?_
  refine WP.seq ?_
  refine WP.seqP [1, 4, 7] (L' := [(1, .pointer (some ⟨b1, 0, none⟩)), (4, .bool false), (7, .int .i64 0)]) (by kernel_rfl) ?_
  rw [Option.bind_eq_some_iff] at h
  obtain ⟨os2, h, hk3⟩ := h
  refine WP.cutQ (fun L' G' Γ' => ∃ s2 : Bool, s2 = os2 ∧ L' = [(1, .pointer (some ⟨b1, 0, none⟩)), (4, .bool s2)] ∧ G = G' ∧ [(b1, .cells #[.int .i64 a0.f0, .slice Aa0_f1 a0.f1.length ca0_f1, .slice Aa0_f2 a0.f2.length ca0_f2, .int .i64 a0.f3, .int .i64 a0.f4, .int .i64 a0.f5, .int .i64 a0.f6, .string a0.f7] 41 (0, 0))] :: Γ = Γ') ?_ ?_
  · clear hk3
    refine WP.block ?_
    refine WP.pick [1, 4, 7] ?_
    refine WP.loopF (fun kn6 L' G' Γ' => ∃ (y4 : Bool), ∃ (y5 : Int), segment_Lay_l0 a0 kn6 y4 y5 = some os2 ∧ L' = [(1, .pointer (some ⟨b1, 0, none⟩)), (4, .bool y4), (7, .int .i64 y5)] ∧ G = G' ∧ [(b1, .cells #[.int .i64 a0.f0, .slice Aa0_f1 a0.f1.length ca0_f1, .slice Aa0_f2 a0.f2.length ca0_f2, .int .i64 a0.f3, .int .i64 a0.f4, .int .i64 a0.f5, .int .i64 a0.f6, .string a0.f7] 41 (0, 0))] :: Γ = Γ') ?_ k ⟨false, 0, h, rfl, rfl, rfl⟩
    clear h
    rintro kn7 _ _ _ ⟨y4, y5, h, rfl, rfl, rfl⟩
    cases kn7 with
    | zero => exact absurd h (by simp [segment_Lay_l0])
    | succ kn7 =>
      simp only [segment_Lay_l0] at h
      refine WP.seqP [1, 4, 7, 8] (L' := [(1, .pointer (some ⟨b1, 0, none⟩)), (4, .bool y4), (7, .int .i64 y5), (8, .bool (decide (y5 < 8)))]) (by kernel_rfl) ?_
      refine WP.seq ?_
      refine WP.cond (b := decide (y5 < 8)) (by kernel_rfl) (fun hc => ?_) (fun hc => ?_)
      · replace hc := of_decide_eq_true hc
        rw [if_pos hc] at h
        have hc8 := hc
        clear hc
        refine WP.skip ?_
        refine QP.next ?_
        refine WP.pick [1, 4, 7] ?_
        refine WP.seq ?_
        refine WP.block ?_
        refine WP.seqP [1, 4, 5, 7] (L' := [(1, .pointer (some ⟨b1, 0, none⟩)), (4, .bool y4), (5, .int .i64 y5), (7, .int .i64 y5)]) (by kernel_rfl) ?_
        rw [Option.bind_eq_some_iff] at h
        obtain ⟨os9, h, hk10⟩ := h
        refine WP.cutQ (fun L' G' Γ' => ∃ s9 : Bool, s9 = os9 ∧ L' = [(1, .pointer (some ⟨b1, 0, none⟩)), (4, .bool s9), (7, .int .i64 y5)] ∧ G = G' ∧ [(b1, .cells #[.int .i64 a0.f0, .slice Aa0_f1 a0.f1.length ca0_f1, .slice Aa0_f2 a0.f2.length ca0_f2, .int .i64 a0.f3, .int .i64 a0.f4, .int .i64 a0.f5, .int .i64 a0.f6, .string a0.f7] 41 (0, 0))] :: Γ = Γ') ?_ ?_
        · clear hk10
          refine WP.region ?_
          refine WL.pure 0 2 [1, 4, 5, 7, 11] (L' := [(1, .pointer (some ⟨b1, 0, none⟩)), (4, .bool y4), (5, .int .i64 y5), (7, .int .i64 y5), (11, .bool y4)]) (by kernel_rfl) (by decide) ?_
          refine WL.split 11 (b := y4) (by kernel_rfl) (fun hc => ?_) (fun hc => ?_)
          · replace hc := hc
            rw [if_pos hc] at h
            have hc11 := hc
            clear hc
            refine WL.rest 2 [1, 4, 7] (L' := [(1, .pointer (some ⟨b1, 0, none⟩)), (4, .bool true), (7, .int .i64 y5)]) (by kernel_rfl) ?_
            refine QP.pick [1, 4, 7] ?_
            exact QP.meet ⟨_, Option.some.inj h, rfl, rfl, rfl⟩
          · replace hc := (Bool.eq_false_iff.1 hc)
            rw [if_neg hc] at h
            have hc11 := hc
            clear hc
            refine WL.tell (op := .load 41 (.tmp 1)) (ty := 41) (d := some 12) (g := some (1, false)) (by kernel_rfl) (by kernel_rfl) (by kernel_rfl) (Tells.load_box (i := 0) (b := b1) (o := 0) (agg := true) (by rfl) ag41 (by kernel_rfl) (fun h => by cases h) (Nat.le_of_ble_eq_true rfl) (v := .agg #[.int .i64 a0.f0, .slice Aa0_f1 a0.f1.length ca0_f1, .slice Aa0_f2 a0.f2.length ca0_f2, .int .i64 a0.f3, .int .i64 a0.f4, .int .i64 a0.f5, .int .i64 a0.f6, .string a0.f7]) (by kernel_rfl)) ?_
            refine WL.pure 3 5 [1, 4, 7, 11, 12, 14] (L' := [(1, .pointer (some ⟨b1, 0, none⟩)), (4, .bool y4), (7, .int .i64 y5), (11, .bool false), (12, .agg #[.int .i64 a0.f0, .slice Aa0_f1 a0.f1.length ca0_f1, .slice Aa0_f2 a0.f2.length ca0_f2, .int .i64 a0.f3, .int .i64 a0.f4, .int .i64 a0.f5, .int .i64 a0.f6, .string a0.f7]), (14, .int .i64 (IntKind.i64.wrap (y5 + 1)))]) (by kernel_rfl) (by decide) ?_
            rw [Option.bind_eq_some_iff] at h
            obtain ⟨t12, ht13, h⟩ := h
            refine WL.op (op := .call { callee := (.value (.func 18)), args := #[(.tmp 12), (.tmp 14)], argTypes := #[41, 3] }) (ty := 4) (d := some 15) (g := some (1, false)) (by kernel_rfl) (by kernel_rfl) (by kernel_rfl) (Does.call (f := 18) (args := [.agg #[.int .i64 a0.f0, .slice Aa0_f1 a0.f1.length ca0_f1, .slice Aa0_f2 a0.f2.length ca0_f2, .int .i64 a0.f3, .int .i64 a0.f4, .int .i64 a0.f5, .int .i64 a0.f6, .string a0.f7], .int .i64 (IntKind.i64.wrap (y5 + 1))]) (by kernel_rfl) (fun W hI => (segment_May_calls HT kn7 a0 (IntKind.i64.wrap (y5 + 1)) Aa0_f1 ca0_f1 Ha0_f1 Aa0_f2 ca0_f2 Ha0_f2 t12 ht13 hI))) ?_
            rintro _ _ _ ⟨rfl, rfl, rfl⟩
            refine WL.rest 6 [1, 4, 7] (L' := [(1, .pointer (some ⟨b1, 0, none⟩)), (4, .bool t12), (7, .int .i64 y5)]) (by kernel_rfl) ?_
            refine QP.pick [1, 4, 7] ?_
            exact QP.meet ⟨_, Option.some.inj h, rfl, rfl, rfl⟩
        · rintro _ _ _ ⟨s9, rfl, rfl, rfl, rfl⟩
          clear h
          replace h := hk10
          refine QP.blockN ?_
          refine QP.next ?_
          refine WP.pick [1, 4, 7] ?_
          refine WP.regionP [1, 4, 7] (L' := [(1, .pointer (some ⟨b1, 0, none⟩)), (4, .bool s9), (7, .int .i64 (IntKind.i64.wrap (y5 + 1)))]) (by kernel_rfl) ?_
          refine QP.pick [1, 4, 7] ?_
          exact QP.meet ⟨kn7, Nat.lt_succ_self _, s9, (IntKind.i64.wrap (y5 + 1)), h, rfl, rfl, rfl⟩
      · replace hc := of_decide_eq_false hc
        rw [if_neg hc] at h
        have hc8 := hc
        clear hc
        refine WP.exit ?_
        refine QP.thenE ?_
        refine QP.thenE ?_
        refine QP.blockE ?_
        refine QP.pick [1, 4] ?_
        exact QP.meet ⟨_, Option.some.inj h, rfl, rfl, rfl⟩
  · rintro _ _ _ ⟨s2, rfl, rfl, rfl, rfl⟩
    clear h
    replace h := hk3
    refine QP.next ?_
    refine WP.pick [1, 4] ?_
    refine WP.seq ?_
    refine WP.seqP [1, 19] (L' := [(1, .pointer (some ⟨b1, 0, none⟩)), (19, .bool (!s2))]) (by kernel_rfl) ?_
    refine WP.cond (b := (!s2)) (by kernel_rfl) (fun hc => ?_) (fun hc => ?_)
    · replace hc := hc
      rw [if_pos hc] at h
      have hc16 := hc
      clear hc
      refine WP.seqP [2, 3] (L' := [(2, .slice none 0 0), (3, .int .i64 2)]) (by kernel_rfl) ?_
      refine WP.dropAt 0 ?_
      refine WP.ret ?_
      refine QP.thenR ?_
      obtain rfl := Option.some.inj h
      refine QP.addNil ?_
      exact QP.returned [2, 3] [.slice none ([] : List Int).length 0, .int .i64 2] _ (by kernel_rfl) (by kernel_rfl) (by kernel_rfl) (fun W hI => ⟨_, _, _, rfl, ⟨none, 0, [], rfl, (Ow.nil (kInt .u8) _), rfl, rfl⟩, hI⟩)
    · replace hc := (Bool.eq_false_iff.1 hc)
      rw [if_neg hc] at h
      have hc16 := hc
      clear hc
      refine WP.skip ?_
      refine QP.next ?_
      refine WP.pick [1] ?_
      refine WP.seqP [1] (L' := [(1, .pointer (some ⟨b1, 0, none⟩))]) (by kernel_rfl) ?_
      refine WP.seq ?_
      refine WP.seqR ?_
      refine WL.pure 0 1 [1, 20] (L' := [(1, .pointer (some ⟨b1, 0, none⟩)), (20, .pointer (some ⟨b1, 0, none⟩))]) (by kernel_rfl) (by decide) ?_
      refine WL.tell (op := .load 3 (.tmp 20)) (ty := 3) (d := some 21) (g := none) (by kernel_rfl) (by kernel_rfl) (by kernel_rfl) (Tells.load_box (i := 0) (b := b1) (o := 0) (agg := false) (by rfl) ag3 (by kernel_rfl) (fun _ => rfl) (Nat.le_of_ble_eq_true rfl) (v := .int .i64 a0.f0) (by kernel_rfl)) ?_
      refine WL.restQ 2 [1, 21] (L' := [(1, .pointer (some ⟨b1, 0, none⟩)), (21, .int .i64 a0.f0)]) (by kernel_rfl) ?_
      refine WP.block ?_
      refine WP.seqP [1, 21, 28] (L' := [(1, .pointer (some ⟨b1, 0, none⟩)), (21, .int .i64 a0.f0), (28, .bool (a0.f0 == 1))]) (by kernel_rfl) ?_
      refine WP.cond (b := (a0.f0 == 1)) (by kernel_rfl) (fun hc => ?_) (fun hc => ?_)
      · replace hc := eq_of_beq hc
        rw [if_pos hc] at h
        have hc17 := hc
        clear hc
        skip
        refine WP.any (N := 7) (S := [⟨some 30, [1], []⟩, ⟨some 31, [30], [0]⟩, ⟨some 32, [31], [1]⟩, ⟨some 33, [1], []⟩, ⟨some 34, [33], [3]⟩, ⟨some 35, [32, 34], [2, 4]⟩, ⟨some 6, [35], [0, 1, 2, 3, 4, 5]⟩]) (kw := 7) (G0 := G) (Γ0 := [[(b1, .cells #[.int .i64 a0.f0, .slice Aa0_f1 a0.f1.length ca0_f1, .slice Aa0_f2 a0.f2.length ca0_f2, .int .i64 a0.f3, .int .i64 a0.f4, .int .i64 a0.f5, .int .i64 a0.f6, .string a0.f7] 41 (0, 0))]]) mo (by kernel_rfl) (fun hS => ?_)
        refine WA.pure [0, 3] [1, 30, 33] (m := 5) (b' := 9) (L' := [(1, .pointer (some ⟨b1, 0, none⟩)), (30, .pointer (some ⟨b1, 1, none⟩)), (33, .pointer (some ⟨b1, 2, none⟩))]) (by kernel_rfl) (NoPanic.block (NoPanic.then (NoPanic.body))) (Under.mem (C := [(b1, .cells #[.int .i64 a0.f0, .slice Aa0_f1 a0.f1.length ca0_f1, .slice Aa0_f2 a0.f2.length ca0_f2, .int .i64 a0.f3, .int .i64 a0.f4, .int .i64 a0.f5, .int .i64 a0.f6, .string a0.f7] 41 (0, 0))]) (by repeat first | exact List.Mem.head _ | apply List.Mem.tail)) hS (by kernel_rfl) ?_
        refine WA.tellD [] (i := 1) (m := 4) (b' := 11) (by kernel_rfl) (NoPanic.block (NoPanic.then (NoPanic.body))) (Under.mem (C := [(b1, .cells #[.int .i64 a0.f0, .slice Aa0_f1 a0.f1.length ca0_f1, .slice Aa0_f2 a0.f2.length ca0_f2, .int .i64 a0.f3, .int .i64 a0.f4, .int .i64 a0.f5, .int .i64 a0.f6, .string a0.f7] 41 (0, 0))]) (by repeat first | exact List.Mem.head _ | apply List.Mem.tail)) hS (by kernel_rfl) (op := .load 32 (.tmp 30)) (ty := 32) (d := some 31) (g := none) (by kernel_rfl) (by kernel_rfl) (by kernel_rfl) (Tells.load_box (i := 0) (b := b1) (o := 1) (agg := false) (by rfl) ag32 (by kernel_rfl) (fun _ => rfl) (Nat.le_of_ble_eq_true rfl) (v := .slice Aa0_f1 a0.f1.length ca0_f1) (by kernel_rfl)) ?_
        refine WA.tellD [] (i := 4) (m := 3) (b' := 27) (by kernel_rfl) (NoPanic.block (NoPanic.then (NoPanic.body))) (Under.mem (C := [(b1, .cells #[.int .i64 a0.f0, .slice Aa0_f1 a0.f1.length ca0_f1, .slice Aa0_f2 a0.f2.length ca0_f2, .int .i64 a0.f3, .int .i64 a0.f4, .int .i64 a0.f5, .int .i64 a0.f6, .string a0.f7] 41 (0, 0))]) (by repeat first | exact List.Mem.head _ | apply List.Mem.tail)) hS (by kernel_rfl) (op := .load 32 (.tmp 33)) (ty := 32) (d := some 34) (g := none) (by kernel_rfl) (by kernel_rfl) (by kernel_rfl) (Tells.load_box (i := 0) (b := b1) (o := 2) (agg := false) (by rfl) ag32 (by kernel_rfl) (fun _ => rfl) (Nat.le_of_ble_eq_true rfl) (v := .slice Aa0_f2 a0.f2.length ca0_f2) (by kernel_rfl)) ?_
        refine WA.addNil ?_
        rw [Option.bind_eq_some_iff] at h
        obtain ⟨t18, ht19, h⟩ := h
        refine WA.op (i := 2) (m := 2) (b' := 31) (by kernel_rfl) hS (by kernel_rfl) (op := .call { callee := (.value (.func 46)), args := #[(.const (.slice none 0 0)), (.tmp 31)], argTypes := #[22, 32] }) (ty := 22) (d := some 32) (g := none) (by kernel_rfl) (by kernel_rfl) (by kernel_rfl) (Does.call (f := 46) (args := [.slice none ([] : List Int).length 0, .slice Aa0_f1 a0.f1.length ca0_f1]) (by kernel_rfl) (fun W hI => (segment_numbers_calls k ([] : List Int) a0.f1 none 0 [] (Ow.nil (kInt .u8) G) Aa0_f1 ca0_f1 Ha0_f1 t18 ht19 hI))) ?_
        rintro _ _ _ ⟨AR20, cR20, CR20, rfl, HR20, rfl, rfl⟩
        refine ⟨_, _, Under.refl, (Under.mem (C := [(b1, .cells #[.int .i64 a0.f0, .slice Aa0_f1 a0.f1.length ca0_f1, .slice Aa0_f2 a0.f2.length ca0_f2, .int .i64 a0.f3, .int .i64 a0.f4, .int .i64 a0.f5, .int .i64 a0.f6, .string a0.f7] 41 (0, 0))]) (by repeat first | exact List.Mem.head _ | apply List.Mem.tail)), ?_⟩
        rw [Option.bind_eq_some_iff] at h
        obtain ⟨t22, ht23, h⟩ := h
        refine WA.op (i := 5) (m := 1) (b' := 63) (by kernel_rfl) hS (by kernel_rfl) (op := .call { callee := (.value (.func 46)), args := #[(.tmp 32), (.tmp 34)], argTypes := #[22, 32] }) (ty := 22) (d := some 35) (g := none) (by kernel_rfl) (by kernel_rfl) (by kernel_rfl) (Does.call (f := 46) (args := [.slice AR20 t18.length cR20, .slice Aa0_f2 a0.f2.length ca0_f2]) (by kernel_rfl) (fun W hI => (segment_numbers_calls k t18 a0.f2 AR20 cR20 CR20 HR20 Aa0_f2 ca0_f2 Ha0_f2 t22 ht23 hI))) ?_
        rintro _ _ _ ⟨AR24, cR24, CR24, rfl, HR24, rfl, rfl⟩
        refine ⟨_, _, Under.refl, (Under.mem (C := [(b1, .cells #[.int .i64 a0.f0, .slice Aa0_f1 a0.f1.length ca0_f1, .slice Aa0_f2 a0.f2.length ca0_f2, .int .i64 a0.f3, .int .i64 a0.f4, .int .i64 a0.f5, .int .i64 a0.f6, .string a0.f7] 41 (0, 0))]) (by repeat first | exact List.Mem.head _ | apply List.Mem.tail)), ?_⟩
        refine WA.pure [6] [1, 6] (m := 0) (b' := 127) (L' := [(1, .pointer (some ⟨b1, 0, none⟩)), (6, .slice AR24 t22.length cR24)]) (by kernel_rfl) (NoPanic.block (NoPanic.then (NoPanic.body))) (Under.mem (C := [(b1, .cells #[.int .i64 a0.f0, .slice Aa0_f1 a0.f1.length ca0_f1, .slice Aa0_f2 a0.f2.length ca0_f2, .int .i64 a0.f3, .int .i64 a0.f4, .int .i64 a0.f5, .int .i64 a0.f6, .string a0.f7] 41 (0, 0))]) (by repeat first | exact List.Mem.head _ | apply List.Mem.tail)) hS (by kernel_rfl) ?_
        refine WA.done hS (by kernel_rfl) ?_
        refine QP.pick [1, 6] ?_
        refine QP.blockN ?_
        refine QP.next ?_
        refine WP.pick [1, 6] ?_
        refine WP.seqR ?_
        refine WL.pure 0 1 [6, 41] (L' := [(6, .slice AR24 t22.length cR24), (41, .pointer (some ⟨b1, 0, none⟩))]) (by kernel_rfl) (by decide) ?_
        refine WL.tell (op := .load 3 (.tmp 41)) (ty := 3) (d := some 42) (g := none) (by kernel_rfl) (by kernel_rfl) (by kernel_rfl) (Tells.load_box (i := 1) (b := b1) (o := 0) (agg := false) (by rfl) ag3 (by kernel_rfl) (fun _ => rfl) (Nat.le_of_ble_eq_true rfl) (v := .int .i64 a0.f0) (by kernel_rfl)) ?_
        refine WL.pure 2 3 [42, 43] (L' := [(42, .int .i64 a0.f0), (43, .slice AR24 t22.length cR24)]) (by kernel_rfl) (by decide) ?_
        rw [Option.bind_eq_some_iff] at h
        obtain ⟨t26, ht27, h⟩ := h
        refine WL.op (op := .call { callee := (.value (.func 48)), args := #[(.tmp 42), (.tmp 43)], argTypes := #[3, 22] }) (ty := 44) (d := some 44) (g := none) (by kernel_rfl) (by kernel_rfl) (by kernel_rfl) (Does.call (Φ := fun v' G' Γ' => ∃ (AR280 : Option Addr), ∃ (cR280 : Nat), ∃ (CR280 : Chunk), v' = .tuple #[.slice AR280 t26.1.length cR280, .int .i64 t26.2] ∧ Ow (kInt .u8) G AR280 cR280 t26.1 CR280 ∧ G = G' ∧ CR280 :: CR24 :: [(b1, .cells #[.int .i64 a0.f0, .slice Aa0_f1 a0.f1.length ca0_f1, .slice Aa0_f2 a0.f2.length ca0_f2, .int .i64 a0.f3, .int .i64 a0.f4, .int .i64 a0.f5, .int .i64 a0.f6, .string a0.f7] 41 (0, 0))] :: Γ = Γ') (f := 48) (args := [.int .i64 a0.f0, .slice AR24 t22.length cR24]) (by kernel_rfl) (fun W hI => (Calls.lendN (Φ := fun v' N => ∃ (AR280 : Option Addr), ∃ (cR280 : Nat), ∃ (CR280 : Chunk), v' = .tuple #[.slice AR280 t26.1.length cR280, .int .i64 t26.2] ∧ Ow (kInt .u8) G AR280 cR280 t26.1 CR280 ∧ N = [CR280]) (H := []) (i := 0) rfl hI (fun _ e l30 nl30 hI => by subst e; exact (((frame_Lay_calls k a0.f0 t22 AR24 cR24 (HR24.rdN l30 nl30) t26 ht27 hI)).mono fun _ _ hr => by obtain ⟨_, _, _, rfl, hd, hI⟩ := hr; obtain ⟨AR280, cR280, CR280, rfl, HR280, rfl, rfl⟩ := hd; exact ⟨_, _, _, rfl, ⟨[CR280], ⟨AR280, cR280, CR280, rfl, (HR280.flat (kInt_flat _)), rfl⟩, rfl, rfl⟩, hI⟩))).mono fun _ _ hr => by obtain ⟨_, _, _, rfl, ⟨_, hd, rfl, rfl⟩, hI⟩ := hr; obtain ⟨AR280, cR280, CR280, rfl, HR280, rfl⟩ := hd; exact ⟨_, _, _, rfl, ⟨AR280, cR280, CR280, rfl, HR280, rfl, rfl⟩, hI⟩)) ?_
        rintro _ _ _ ⟨AR280, cR280, CR280, rfl, HR280, rfl, rfl⟩
        refine WL.restQ 4 [2, 3] (L' := [(2, .slice AR280 t26.1.length cR280), (3, .int .i64 t26.2)]) (by kernel_rfl) ?_
        refine WP.dropAt 2 ?_
        refine WP.dropAt 1 ?_
        refine WP.ret ?_
        obtain rfl := Option.some.inj h
        exact QP.returned [2, 3] [.slice AR280 t26.1.length cR280, .int .i64 t26.2] _ (by kernel_rfl) (by kernel_rfl) (by kernel_rfl) (fun W hI => ⟨_, _, _, rfl, ⟨AR280, cR280, CR280, rfl, HR280, rfl, rfl⟩, hI⟩)
      · replace hc := ne_of_beq_false hc
        rw [if_neg hc] at h
        have hc17 := hc
        clear hc
        refine WP.seqP [1, 36] (L' := [(1, .pointer (some ⟨b1, 0, none⟩)), (36, .bool (a0.f0 == 3))]) (by kernel_rfl) ?_
        refine WP.cond (b := (a0.f0 == 3)) (by kernel_rfl) (fun hc => ?_) (fun hc => ?_)
        · replace hc := eq_of_beq hc
          rw [if_pos hc] at h
          have hc31 := hc
          clear hc
          refine WP.region ?_
          refine WL.pure 0 1 [1, 38] (L' := [(1, .pointer (some ⟨b1, 0, none⟩)), (38, .pointer (some ⟨b1, 2, none⟩))]) (by kernel_rfl) (by decide) ?_
          refine WL.tell (op := .load 32 (.tmp 38)) (ty := 32) (d := some 39) (g := none) (by kernel_rfl) (by kernel_rfl) (by kernel_rfl) (Tells.load_box (i := 0) (b := b1) (o := 2) (agg := false) (by rfl) ag32 (by kernel_rfl) (fun _ => rfl) (Nat.le_of_ble_eq_true rfl) (v := .slice Aa0_f2 a0.f2.length ca0_f2) (by kernel_rfl)) ?_
          refine WL.addNil ?_
          rw [Option.bind_eq_some_iff] at h
          obtain ⟨t32, ht33, h⟩ := h
          refine WL.op (op := .call { callee := (.value (.func 46)), args := #[(.const (.slice none 0 0)), (.tmp 39)], argTypes := #[22, 32] }) (ty := 22) (d := some 40) (g := none) (by kernel_rfl) (by kernel_rfl) (by kernel_rfl) (Does.call (f := 46) (args := [.slice none ([] : List Int).length 0, .slice Aa0_f2 a0.f2.length ca0_f2]) (by kernel_rfl) (fun W hI => (segment_numbers_calls k ([] : List Int) a0.f2 none 0 [] (Ow.nil (kInt .u8) G) Aa0_f2 ca0_f2 Ha0_f2 t32 ht33 hI))) ?_
          rintro _ _ _ ⟨AR34, cR34, CR34, rfl, HR34, rfl, rfl⟩
          refine WL.rest 3 [1, 6] (L' := [(1, .pointer (some ⟨b1, 0, none⟩)), (6, .slice AR34 t32.length cR34)]) (by kernel_rfl) ?_
          refine QP.blockN ?_
          refine QP.next ?_
          refine WP.pick [1, 6] ?_
          refine WP.seqR ?_
          refine WL.pure 0 1 [6, 41] (L' := [(6, .slice AR34 t32.length cR34), (41, .pointer (some ⟨b1, 0, none⟩))]) (by kernel_rfl) (by decide) ?_
          refine WL.tell (op := .load 3 (.tmp 41)) (ty := 3) (d := some 42) (g := none) (by kernel_rfl) (by kernel_rfl) (by kernel_rfl) (Tells.load_box (i := 1) (b := b1) (o := 0) (agg := false) (by rfl) ag3 (by kernel_rfl) (fun _ => rfl) (Nat.le_of_ble_eq_true rfl) (v := .int .i64 a0.f0) (by kernel_rfl)) ?_
          refine WL.pure 2 3 [42, 43] (L' := [(42, .int .i64 a0.f0), (43, .slice AR34 t32.length cR34)]) (by kernel_rfl) (by decide) ?_
          rw [Option.bind_eq_some_iff] at h
          obtain ⟨t36, ht37, h⟩ := h
          refine WL.op (op := .call { callee := (.value (.func 48)), args := #[(.tmp 42), (.tmp 43)], argTypes := #[3, 22] }) (ty := 44) (d := some 44) (g := none) (by kernel_rfl) (by kernel_rfl) (by kernel_rfl) (Does.call (Φ := fun v' G' Γ' => ∃ (AR380 : Option Addr), ∃ (cR380 : Nat), ∃ (CR380 : Chunk), v' = .tuple #[.slice AR380 t36.1.length cR380, .int .i64 t36.2] ∧ Ow (kInt .u8) G AR380 cR380 t36.1 CR380 ∧ G = G' ∧ CR380 :: CR34 :: [(b1, .cells #[.int .i64 a0.f0, .slice Aa0_f1 a0.f1.length ca0_f1, .slice Aa0_f2 a0.f2.length ca0_f2, .int .i64 a0.f3, .int .i64 a0.f4, .int .i64 a0.f5, .int .i64 a0.f6, .string a0.f7] 41 (0, 0))] :: Γ = Γ') (f := 48) (args := [.int .i64 a0.f0, .slice AR34 t32.length cR34]) (by kernel_rfl) (fun W hI => (Calls.lendN (Φ := fun v' N => ∃ (AR380 : Option Addr), ∃ (cR380 : Nat), ∃ (CR380 : Chunk), v' = .tuple #[.slice AR380 t36.1.length cR380, .int .i64 t36.2] ∧ Ow (kInt .u8) G AR380 cR380 t36.1 CR380 ∧ N = [CR380]) (H := []) (i := 0) rfl hI (fun _ e l40 nl40 hI => by subst e; exact (((frame_Lay_calls k a0.f0 t32 AR34 cR34 (HR34.rdN l40 nl40) t36 ht37 hI)).mono fun _ _ hr => by obtain ⟨_, _, _, rfl, hd, hI⟩ := hr; obtain ⟨AR380, cR380, CR380, rfl, HR380, rfl, rfl⟩ := hd; exact ⟨_, _, _, rfl, ⟨[CR380], ⟨AR380, cR380, CR380, rfl, (HR380.flat (kInt_flat _)), rfl⟩, rfl, rfl⟩, hI⟩))).mono fun _ _ hr => by obtain ⟨_, _, _, rfl, ⟨_, hd, rfl, rfl⟩, hI⟩ := hr; obtain ⟨AR380, cR380, CR380, rfl, HR380, rfl⟩ := hd; exact ⟨_, _, _, rfl, ⟨AR380, cR380, CR380, rfl, HR380, rfl, rfl⟩, hI⟩)) ?_
          rintro _ _ _ ⟨AR380, cR380, CR380, rfl, HR380, rfl, rfl⟩
          refine WL.restQ 4 [2, 3] (L' := [(2, .slice AR380 t36.1.length cR380), (3, .int .i64 t36.2)]) (by kernel_rfl) ?_
          refine WP.dropAt 2 ?_
          refine WP.dropAt 1 ?_
          refine WP.ret ?_
          obtain rfl := Option.some.inj h
          exact QP.returned [2, 3] [.slice AR380 t36.1.length cR380, .int .i64 t36.2] _ (by kernel_rfl) (by kernel_rfl) (by kernel_rfl) (fun W hI => ⟨_, _, _, rfl, ⟨AR380, cR380, CR380, rfl, HR380, rfl, rfl⟩, hI⟩)
        · replace hc := ne_of_beq_false hc
          rw [if_neg hc] at h
          have hc31 := hc
          clear hc
          refine WP.region ?_
          refine WL.pure 0 1 [1, 23] (L' := [(1, .pointer (some ⟨b1, 0, none⟩)), (23, .pointer (some ⟨b1, 3, none⟩))]) (by kernel_rfl) (by decide) ?_
          refine WL.tell (op := .load 39 (.tmp 23)) (ty := 39) (d := some 24) (g := none) (by kernel_rfl) (by kernel_rfl) (by kernel_rfl) (Tells.load_box (i := 0) (b := b1) (o := 3) (agg := true) (by rfl) ag39 (by kernel_rfl) (fun h => by cases h) (Nat.le_of_ble_eq_true rfl) (v := .agg #[.int .i64 a0.f3, .int .i64 a0.f4, .int .i64 a0.f5, .int .i64 a0.f6, .string a0.f7]) (by kernel_rfl)) ?_
          rw [Option.bind_eq_some_iff] at h
          obtain ⟨t41, ht42, h⟩ := h
          refine WL.op (op := .call { callee := (.value (.func 47)), args := #[(.tmp 24)], argTypes := #[39] }) (ty := 44) (d := some 25) (g := none) (by kernel_rfl) (by kernel_rfl) (by kernel_rfl) (Does.call (f := 47) (args := [.agg #[.int .i64 a0.f3, .int .i64 a0.f4, .int .i64 a0.f5, .int .i64 a0.f6, .string a0.f7]]) (by kernel_rfl) (fun W hI => (record_Lay_calls HT k (⟨a0.f3, a0.f4, a0.f5, a0.f6, a0.f7⟩ : T39)  t41 ht42 hI))) ?_
          rintro _ _ _ ⟨AR430, cR430, CR430, rfl, HR430, rfl, rfl⟩
          refine WL.rest 3 [1, 6] (L' := [(1, .pointer (some ⟨b1, 0, none⟩)), (6, .slice AR430 t41.1.length cR430)]) (by kernel_rfl) ?_
          refine QP.blockN ?_
          refine QP.next ?_
          refine WP.pick [1, 6] ?_
          refine WP.seqR ?_
          refine WL.pure 0 1 [6, 41] (L' := [(6, .slice AR430 t41.1.length cR430), (41, .pointer (some ⟨b1, 0, none⟩))]) (by kernel_rfl) (by decide) ?_
          refine WL.tell (op := .load 3 (.tmp 41)) (ty := 3) (d := some 42) (g := none) (by kernel_rfl) (by kernel_rfl) (by kernel_rfl) (Tells.load_box (i := 1) (b := b1) (o := 0) (agg := false) (by rfl) ag3 (by kernel_rfl) (fun _ => rfl) (Nat.le_of_ble_eq_true rfl) (v := .int .i64 a0.f0) (by kernel_rfl)) ?_
          refine WL.pure 2 3 [42, 43] (L' := [(42, .int .i64 a0.f0), (43, .slice AR430 t41.1.length cR430)]) (by kernel_rfl) (by decide) ?_
          rw [Option.bind_eq_some_iff] at h
          obtain ⟨t45, ht46, h⟩ := h
          refine WL.op (op := .call { callee := (.value (.func 48)), args := #[(.tmp 42), (.tmp 43)], argTypes := #[3, 22] }) (ty := 44) (d := some 44) (g := none) (by kernel_rfl) (by kernel_rfl) (by kernel_rfl) (Does.call (Φ := fun v' G' Γ' => ∃ (AR470 : Option Addr), ∃ (cR470 : Nat), ∃ (CR470 : Chunk), v' = .tuple #[.slice AR470 t45.1.length cR470, .int .i64 t45.2] ∧ Ow (kInt .u8) G AR470 cR470 t45.1 CR470 ∧ G = G' ∧ CR470 :: CR430 :: [(b1, .cells #[.int .i64 a0.f0, .slice Aa0_f1 a0.f1.length ca0_f1, .slice Aa0_f2 a0.f2.length ca0_f2, .int .i64 a0.f3, .int .i64 a0.f4, .int .i64 a0.f5, .int .i64 a0.f6, .string a0.f7] 41 (0, 0))] :: Γ = Γ') (f := 48) (args := [.int .i64 a0.f0, .slice AR430 t41.1.length cR430]) (by kernel_rfl) (fun W hI => (Calls.lendN (Φ := fun v' N => ∃ (AR470 : Option Addr), ∃ (cR470 : Nat), ∃ (CR470 : Chunk), v' = .tuple #[.slice AR470 t45.1.length cR470, .int .i64 t45.2] ∧ Ow (kInt .u8) G AR470 cR470 t45.1 CR470 ∧ N = [CR470]) (H := []) (i := 0) rfl hI (fun _ e l49 nl49 hI => by subst e; exact (((frame_Lay_calls k a0.f0 t41.1 AR430 cR430 (HR430.rdN l49 nl49) t45 ht46 hI)).mono fun _ _ hr => by obtain ⟨_, _, _, rfl, hd, hI⟩ := hr; obtain ⟨AR470, cR470, CR470, rfl, HR470, rfl, rfl⟩ := hd; exact ⟨_, _, _, rfl, ⟨[CR470], ⟨AR470, cR470, CR470, rfl, (HR470.flat (kInt_flat _)), rfl⟩, rfl, rfl⟩, hI⟩))).mono fun _ _ hr => by obtain ⟨_, _, _, rfl, ⟨_, hd, rfl, rfl⟩, hI⟩ := hr; obtain ⟨AR470, cR470, CR470, rfl, HR470, rfl⟩ := hd; exact ⟨_, _, _, rfl, ⟨AR470, cR470, CR470, rfl, HR470, rfl, rfl⟩, hI⟩)) ?_
          rintro _ _ _ ⟨AR470, cR470, CR470, rfl, HR470, rfl, rfl⟩
          refine WL.restQ 4 [2, 3] (L' := [(2, .slice AR470 t45.1.length cR470), (3, .int .i64 t45.2)]) (by kernel_rfl) ?_
          refine WP.dropAt 2 ?_
          refine WP.dropAt 1 ?_
          refine WP.ret ?_
          obtain rfl := Option.some.inj h
          exact QP.returned [2, 3] [.slice AR470 t45.1.length cR470, .int .i64 t45.2] _ (by kernel_rfl) (by kernel_rfl) (by kernel_rfl) (fun W hI => ⟨_, _, _, rfl, ⟨AR470, cR470, CR470, rfl, HR470, rfl, rfl⟩, hI⟩)

/-! ### (*grapevine/segment.body).vector: function 75 -/
def segment_body_vector_l0 (a0 : T73) (v7 : Int) : Nat → (List Int) → Int → Option (List Int)
  | 0, _, _ => none
  | k + 1, y11, y12 => (if y12 < v7 then (if 0 ≤ (IntKind.i64.wrap (1 + (IntKind.i64.wrap (2 * y12)))) ∧ (IntKind.i64.wrap (1 + (IntKind.i64.wrap (2 * y12)))) < (a0.f0.length : Int) then (if 0 ≤ (IntKind.i64.wrap (2 + (IntKind.i64.wrap (2 * y12)))) ∧ (IntKind.i64.wrap (2 + (IntKind.i64.wrap (2 * y12)))) < (a0.f0.length : Int) then (if y11.length + ([Go.bits .or .i64 (shlK .i64 (IntKind.i64.wrap (a0.f0.getD (IntKind.i64.wrap (1 + (IntKind.i64.wrap (2 * y12)))).toNat 0)) 8) (IntKind.i64.wrap (a0.f0.getD (IntKind.i64.wrap (2 + (IntKind.i64.wrap (2 * y12)))).toNat 0))] : List Int).length ≤ 1073741824 then segment_body_vector_l0 a0 v7 k (y11 ++ ([Go.bits .or .i64 (shlK .i64 (IntKind.i64.wrap (a0.f0.getD (IntKind.i64.wrap (1 + (IntKind.i64.wrap (2 * y12)))).toNat 0)) 8) (IntKind.i64.wrap (a0.f0.getD (IntKind.i64.wrap (2 + (IntKind.i64.wrap (2 * y12)))).toNat 0))] : List Int)) (IntKind.i64.wrap (y12 + 1)) else none) else none) else none) else some y11)
def segment_body_vector (k : Nat) (a0 : T73) : Option ((List Int) × T73) := ((if (a0.f0.length : Int) = 0 then some true else (if 0 ≤ (0 : Int) ∧ (0 : Int) < (a0.f0.length : Int) then some (decide ((IntKind.i64.wrap (Int.tdiv (IntKind.i64.wrap ((a0.f0.length : Int) - 1)) 2)) < (IntKind.i64.wrap (a0.f0.getD (0 : Int).toNat 0)))) else none)).bind fun s1 => (if s1 = true then some (([] : List Int), (⟨a0.f0, true⟩ : T73)) else (if 0 ≤ (0 : Int) ∧ (0 : Int) < (a0.f0.length : Int) then ((some (IntKind.i64.wrap (a0.f0.getD (0 : Int).toNat 0))).bind fun v7 => ((segment_body_vector_l0 a0 v7 k ([] : List Int) 0).bind fun s9 => (if 0 ≤ (IntKind.i64.wrap (1 + (IntKind.i64.wrap (2 * v7)))) ∧ (IntKind.i64.wrap (1 + (IntKind.i64.wrap (2 * v7)))) ≤ (a0.f0.length : Int) ∧ (a0.f0.length : Int) ≤ (a0.f0.length : Int) then some (s9, (⟨((a0.f0.take (a0.f0.length : Int).toNat).drop (IntKind.i64.wrap (1 + (IntKind.i64.wrap (2 * v7)))).toNat), a0.f1⟩ : T73)) else none))) else none)))
set_option maxHeartbeats 4000000 in
theorem segment_body_vector_calls {B : World} {G : GMap} {Γ : List Chunk} {W : World} (k : Nat) (a0 : T73) (b0 : Nat) (Aa0_f0 : Option Addr) (ca0_f0 : Nat) (Ha0_f0 : Rd (kInt .u8) G Aa0_f0 ca0_f0 a0.f0) (r : (List Int) × T73) (h : segment_body_vector k a0 = some r) (hI : Inv B G ([(b0, .cells #[.slice Aa0_f0 a0.f0.length ca0_f0, .bool a0.f1] 73 (0, 0))] :: Γ) W) :
    Calls Tryd.prog 75 [.pointer (some ⟨b0, 0, none⟩)].toArray W (Ret B (fun v G' Γ' => ∃ (AR : Option Addr), ∃ (cR : Nat), ∃ (CR : Chunk), ∃ (ARp0 : Option Addr), ∃ (cRp0 : Nat), v = .slice AR r.1.length cR ∧ Ow (kInt .i64) G' AR cR r.1 CR ∧ Rd (kInt .u8) G' ARp0 cRp0 r.2.f0 ∧ G = G' ∧ CR :: [(b0, .cells #[.slice ARp0 r.2.f0.length cRp0, .bool r.2.f1] 73 (0, 0))] :: Γ = Γ')) := by
  refine calls_WP (Γ := [(b0, .cells #[.slice Aa0_f0 a0.f0.length ca0_f0, .bool a0.f1] 73 (0, 0))] :: Γ) (G := G) (B := B) Tryd.func75 rfl (by kernel_rfl) ?_ hI
  clear hI
  unfold segment_body_vector at h
  refine WP.seqP [0] (L' := [(0, .pointer (some ⟨b0, 0, none⟩))]) (by kernel_rfl) ?_
  refine WP.seq ?_
  rw [Option.bind_eq_some_iff] at h
  obtain ⟨os1, h, hk2⟩ := h
  refine WP.cut (fun L' G' Γ' => ∃ s1 : Bool, s1 = os1 ∧ L' = [(0, .pointer (some ⟨b0, 0, none⟩)), (28, .bool s1)] ∧ G = G' ∧ [(b0, .cells #[.slice Aa0_f0 a0.f0.length ca0_f0, .bool a0.f1] 73 (0, 0))] :: Γ = Γ') ?_ ?_
  · clear hk2
    skip
    refine WP.any (N := 23) (S := [⟨some 6, [0], []⟩, ⟨some 7, [6], [0]⟩, ⟨some 8, [7], [1]⟩, ⟨some 9, [8], [2]⟩, ⟨some 10, [9], [3]⟩, ⟨some 11, [10], [4]⟩, ⟨some 12, [11], [5]⟩, ⟨some 13, [0, 12], [6]⟩, ⟨some 14, [12, 13], [6, 7]⟩, ⟨some 15, [12, 14], [6, 8]⟩, ⟨some 16, [12, 15], [6, 9]⟩, ⟨some 17, [12, 16], [6, 10]⟩, ⟨some 18, [12, 17], [6, 11]⟩, ⟨some 19, [12, 18], [6, 12]⟩, ⟨some 20, [0, 12], [6]⟩, ⟨some 21, [12, 20], [6, 14]⟩, ⟨some 22, [12, 21], [6, 15]⟩, ⟨some 23, [12, 22], [6, 16]⟩, ⟨some 24, [12, 23], [6, 17]⟩, ⟨some 25, [12, 24], [6, 18]⟩, ⟨some 26, [12, 25], [6, 19]⟩, ⟨some 27, [12, 19, 26], [6, 13, 20]⟩, ⟨some 28, [12, 27], [6, 21]⟩]) (kw := 23) (G0 := G) (Γ0 := [(b0, .cells #[.slice Aa0_f0 a0.f0.length ca0_f0, .bool a0.f1] 73 (0, 0))] :: Γ) mo (by kernel_rfl) (fun hS => ?_)
    refine WA.pure [0, 1, 2] [0, 8] (m := 20) (b' := 7) (L' := [(0, .pointer (some ⟨b0, 0, none⟩)), (8, .pointer (some ⟨b0, 0, none⟩))]) (by kernel_rfl) (NoPanic.then (NoPanic.then (NoPanic.body))) Under.refl hS (by kernel_rfl) ?_
    refine WA.tellD [] (i := 3) (m := 19) (b' := 15) (by kernel_rfl) (NoPanic.then (NoPanic.then (NoPanic.body))) Under.refl hS (by kernel_rfl) (op := .load 22 (.tmp 8)) (ty := 22) (d := some 9) (g := none) (by kernel_rfl) (by kernel_rfl) (by kernel_rfl) (Tells.load_box (i := 0) (b := b0) (o := 0) (agg := false) (by rfl) ag22 (by kernel_rfl) (fun _ => rfl) (Nat.le_of_ble_eq_true rfl) (v := .slice Aa0_f0 a0.f0.length ca0_f0) (by kernel_rfl)) ?_
    refine WA.pure [4, 5, 6] [0, 12] (m := 16) (b' := 127) (L' := [(0, .pointer (some ⟨b0, 0, none⟩)), (12, .bool ((a0.f0.length : Int) == 0))]) (by kernel_rfl) (NoPanic.then (NoPanic.then (NoPanic.body))) Under.refl hS (by kernel_rfl) ?_
    refine WA.split 12 (b := ((a0.f0.length : Int) == 0)) (by kernel_rfl) (fun hc => ?_) (fun hc => ?_)
    · replace hc := eq_of_beq hc
      rw [if_pos hc] at h
      have hc3 := hc
      clear hc
      refine WA.pure [7, 8, 9, 10, 11, 12, 13, 14, 15, 16, 17, 18, 19, 20, 21, 22] [0, 28] (m := 0) (b' := 8388607) (L' := [(0, .pointer (some ⟨b0, 0, none⟩)), (28, .bool true)]) (by kernel_rfl) (NoPanic.then (NoPanic.then (NoPanic.body))) Under.refl hS (by kernel_rfl) ?_
      refine WA.done hS (by kernel_rfl) ?_
      refine QP.pick [0, 28] ?_
      refine QP.pick [0, 28] ?_
      exact QP.meet ⟨_, Option.some.inj h, rfl, rfl, rfl⟩
    · replace hc := ne_of_beq_false hc
      rw [if_neg hc] at h
      have hc3 := hc
      clear hc
      refine WA.pure [7, 8, 9, 14, 15, 16] [0, 12, 15, 22] (m := 10) (b' := 115711) (L' := [(0, .pointer (some ⟨b0, 0, none⟩)), (12, .bool false), (15, .pointer (some ⟨b0, 0, none⟩)), (22, .pointer (some ⟨b0, 0, none⟩))]) (by kernel_rfl) (NoPanic.then (NoPanic.then (NoPanic.body))) Under.refl hS (by kernel_rfl) ?_
      refine WA.tellD [] (i := 10) (m := 9) (b' := 116735) (by kernel_rfl) (NoPanic.then (NoPanic.then (NoPanic.body))) Under.refl hS (by kernel_rfl) (op := .load 22 (.tmp 15)) (ty := 22) (d := some 16) (g := some (6, false)) (by kernel_rfl) (by kernel_rfl) (by kernel_rfl) (Tells.load_box (i := 0) (b := b0) (o := 0) (agg := false) (by rfl) ag22 (by kernel_rfl) (fun _ => rfl) (Nat.le_of_ble_eq_true rfl) (v := .slice Aa0_f0 a0.f0.length ca0_f0) (by kernel_rfl)) ?_
      refine WA.pure [11, 12, 13] [0, 12, 19, 22] (m := 6) (b' := 131071) (L' := [(0, .pointer (some ⟨b0, 0, none⟩)), (12, .bool false), (19, .int .i64 (IntKind.i64.wrap (Int.tdiv (IntKind.i64.wrap ((a0.f0.length : Int) - 1)) 2))), (22, .pointer (some ⟨b0, 0, none⟩))]) (by kernel_rfl) (NoPanic.then (NoPanic.then (NoPanic.body))) Under.refl hS (by kernel_rfl) ?_
      refine WA.tellD [] (i := 17) (m := 5) (b' := 262143) (by kernel_rfl) (NoPanic.then (NoPanic.then (NoPanic.body))) Under.refl hS (by kernel_rfl) (op := .load 22 (.tmp 22)) (ty := 22) (d := some 23) (g := some (6, false)) (by kernel_rfl) (by kernel_rfl) (by kernel_rfl) (Tells.load_box (i := 0) (b := b0) (o := 0) (agg := false) (by rfl) ag22 (by kernel_rfl) (fun _ => rfl) (Nat.le_of_ble_eq_true rfl) (v := .slice Aa0_f0 a0.f0.length ca0_f0) (by kernel_rfl)) ?_
      by_cases hb4 : 0 ≤ (0 : Int) ∧ (0 : Int) < (a0.f0.length : Int)
      case neg => rw [if_neg hb4] at h; cases h
      rw [if_pos hb4] at h
      refine WA.tellD [] (i := 18) (m := 4) (b' := 524287) (by kernel_rfl) (NoPanic.then (NoPanic.then (NoPanic.body))) Under.refl hS (by kernel_rfl) (op := .indexAddr 22 (.tmp 23) (.const (.int .i64 0))) (ty := 0) (d := some 24) (g := some (6, false)) (by kernel_rfl) (by kernel_rfl) (by kernel_rfl) (Tells.indexAddr (A := Aa0_f0) (n := a0.f0.length) (c := ca0_f0) (k := .i64) (j := 0) (by kernel_rfl) (by kernel_rfl) (Ha0_f0.isSome hb4.1 hb4.2) hb4.1 hb4.2 sl22) ?_
      refine WA.tellDE [] (i := 19) (m := 3) (b' := 1048575) (by kernel_rfl) (NoPanic.then (NoPanic.then (NoPanic.body))) Under.refl hS (by kernel_rfl) (op := .load 5 (.tmp 24)) (ty := 5) (d := some 25) (g := some (6, false)) (by kernel_rfl) (by kernel_rfl) (by kernel_rfl) (Ha0_f0.load (agg := false) hb4.1 hb4.2 0 ag5 (fun _ => rfl) (by kernel_rfl)) ?_
      rintro _ rfl
      refine WA.pure [20, 21, 22] [0, 28] (m := 0) (b' := 8388607) (L' := [(0, .pointer (some ⟨b0, 0, none⟩)), (28, .bool (decide ((IntKind.i64.wrap (Int.tdiv (IntKind.i64.wrap ((a0.f0.length : Int) - 1)) 2)) < (IntKind.i64.wrap (a0.f0.getD (0 : Int).toNat 0)))))]) (by kernel_rfl) (NoPanic.then (NoPanic.then (NoPanic.body))) Under.refl hS (by kernel_rfl) ?_
      refine WA.done hS (by kernel_rfl) ?_
      refine QP.pick [0, 28] ?_
      refine QP.pick [0, 28] ?_
      exact QP.meet ⟨_, Option.some.inj h, rfl, rfl, rfl⟩
  · rintro _ _ _ ⟨s1, rfl, rfl, rfl, rfl⟩
    clear h
    replace h := hk2
    refine WP.cond (b := s1) (by kernel_rfl) (fun hc => ?_) (fun hc => ?_)
    · replace hc := hc
      rw [if_pos hc] at h
      have hc5 := hc
      clear hc
      refine WP.seqR ?_
      refine WL.pure 0 3 [31] (L' := [(31, .pointer (some ⟨b0, 1, none⟩))]) (by kernel_rfl) (by decide) ?_
      refine WL.op (op := .store 4 (.tmp 31) (.const (.bool true))) (ty := 0) (d := none) (g := none) (by kernel_rfl) (by kernel_rfl) (by kernel_rfl) (Does.store_box (i := 0) (b := b0) (o := 1) (v := .bool true) (by rfl) sz4 (by kernel_rfl) (by kernel_rfl) (by kernel_rfl) (Free.zero _) (Nat.le_of_ble_eq_true rfl) (cells' := #[.slice Aa0_f0 a0.f0.length ca0_f0, .bool true]) (by kernel_rfl)) ?_
      rintro _ _ _ ⟨rfl, rfl, rfl⟩
      refine WL.restQ 4 [] (L' := []) (by kernel_rfl) ?_
      refine WP.seqP [2] (L' := [(2, .slice none 0 0)]) (by kernel_rfl) ?_
      refine WP.ret ?_
      refine QP.thenR ?_
      obtain rfl := Option.some.inj h
      refine QP.addNil ?_
      exact QP.returned [2] [.slice none ([] : List Int).length 0] _ (by kernel_rfl) (by kernel_rfl) (by kernel_rfl) (fun W hI => ⟨_, _, _, rfl, ⟨none, 0, [], Aa0_f0, ca0_f0, rfl, (Ow.nil (kInt .i64) _), Ha0_f0, rfl, rfl⟩, hI⟩)
    · replace hc := (Bool.eq_false_iff.1 hc)
      rw [if_neg hc] at h
      have hc5 := hc
      clear hc
      refine WP.skip ?_
      refine QP.next ?_
      refine WP.pick [0] ?_
      refine WP.seqR ?_
      refine WL.pure 0 3 [0, 34] (L' := [(0, .pointer (some ⟨b0, 0, none⟩)), (34, .pointer (some ⟨b0, 0, none⟩))]) (by kernel_rfl) (by decide) ?_
      refine WL.tell (op := .load 22 (.tmp 34)) (ty := 22) (d := some 35) (g := none) (by kernel_rfl) (by kernel_rfl) (by kernel_rfl) (Tells.load_box (i := 0) (b := b0) (o := 0) (agg := false) (by rfl) ag22 (by kernel_rfl) (fun _ => rfl) (Nat.le_of_ble_eq_true rfl) (v := .slice Aa0_f0 a0.f0.length ca0_f0) (by kernel_rfl)) ?_
      by_cases hb6 : 0 ≤ (0 : Int) ∧ (0 : Int) < (a0.f0.length : Int)
      case neg => rw [if_neg hb6] at h; cases h
      rw [if_pos hb6] at h
      refine WL.tell (op := .indexAddr 22 (.tmp 35) (.const (.int .i64 0))) (ty := 0) (d := some 36) (g := none) (by kernel_rfl) (by kernel_rfl) (by kernel_rfl) (Tells.indexAddr (A := Aa0_f0) (n := a0.f0.length) (c := ca0_f0) (k := .i64) (j := 0) (by kernel_rfl) (by kernel_rfl) (Ha0_f0.isSome hb6.1 hb6.2) hb6.1 hb6.2 sl22) ?_
      refine WL.tellE (op := .load 5 (.tmp 36)) (ty := 5) (d := some 37) (g := none) (by kernel_rfl) (by kernel_rfl) (by kernel_rfl) (Ha0_f0.load (agg := false) hb6.1 hb6.2 0 ag5 (fun _ => rfl) (by kernel_rfl)) ?_
      rintro _ rfl
      refine WL.restQ 6 [0, 3] (L' := [(0, .pointer (some ⟨b0, 0, none⟩)), (3, .int .i64 (IntKind.i64.wrap (a0.f0.getD (0 : Int).toNat 0)))]) (by kernel_rfl) ?_
      obtain ⟨v7, hv8, h⟩ := Option.bind_eq_some_iff.1 h
      replace hv8 := Option.some.inj hv8
      refine WP.reput 3 (v := .int .i64 (IntKind.i64.wrap (a0.f0.getD (0 : Int).toNat 0))) (v' := .int .i64 v7) (by kernel_rfl) (by subst hv8; rfl) ?_
      refine WP.pick [0, 3] ?_
      refine WP.seqP [0, 3, 4] (L' := [(0, .pointer (some ⟨b0, 0, none⟩)), (3, .int .i64 v7), (4, .slice none 0 0)]) (by kernel_rfl) ?_
      refine WP.seq ?_
      refine WP.seqP [0, 3, 4, 39, 40] (L' := [(0, .pointer (some ⟨b0, 0, none⟩)), (3, .int .i64 v7), (4, .slice none 0 0), (39, .int .i64 v7), (40, .int .i64 0)]) (by kernel_rfl) ?_
      rw [Option.bind_eq_some_iff] at h
      obtain ⟨os9, h, hk10⟩ := h
      refine WP.cutQ (fun L' G' Γ' => ∃ s9 : (List Int), s9 = os9 ∧ ∃ (As9 : Option Addr), ∃ (cs9 : Nat), ∃ (Cs9 : Chunk), L' = [(0, .pointer (some ⟨b0, 0, none⟩)), (3, .int .i64 v7), (4, .slice As9 s9.length cs9)] ∧ G = G' ∧ Cs9 :: [(b0, .cells #[.slice Aa0_f0 a0.f0.length ca0_f0, .bool a0.f1] 73 (0, 0))] :: Γ = Γ' ∧ Ow (kInt .i64) G As9 cs9 s9 Cs9) ?_ ?_
      · clear hk10
        refine WP.block ?_
        refine WP.addNil ?_
        refine WP.pick [0, 3, 4, 39, 40] ?_
        refine WP.loopF (fun kn13 L' G' Γ' => ∃ (y11 : List Int), ∃ (y12 : Int), segment_body_vector_l0 a0 v7 kn13 y11 y12 = some os9 ∧ ∃ (Ay11 : Option Addr), ∃ (cy11 : Nat), ∃ (Cy11 : Chunk), L' = [(0, .pointer (some ⟨b0, 0, none⟩)), (3, .int .i64 v7), (4, .slice Ay11 y11.length cy11), (39, .int .i64 v7), (40, .int .i64 y12)] ∧ G = G' ∧ Cy11 :: [(b0, .cells #[.slice Aa0_f0 a0.f0.length ca0_f0, .bool a0.f1] 73 (0, 0))] :: Γ = Γ' ∧ Ow (kInt .i64) G Ay11 cy11 y11 Cy11) ?_ k ⟨([] : List Int), 0, h, none, 0, [], rfl, rfl, rfl, (Ow.nil (kInt .i64) _)⟩
        clear h
        rintro kn14 _ _ _ ⟨y11, y12, h, Ay11, cy11, Cy11, rfl, rfl, rfl, Hy11⟩
        cases kn14 with
        | zero => exact absurd h (by simp [segment_body_vector_l0])
        | succ kn14 =>
          simp only [segment_body_vector_l0] at h
          refine WP.seqP [0, 3, 4, 39, 40, 41] (L' := [(0, .pointer (some ⟨b0, 0, none⟩)), (3, .int .i64 v7), (4, .slice Ay11 y11.length cy11), (39, .int .i64 v7), (40, .int .i64 y12), (41, .bool (decide (y12 < v7)))]) (by kernel_rfl) ?_
          refine WP.seq ?_
          refine WP.cond (b := decide (y12 < v7)) (by kernel_rfl) (fun hc => ?_) (fun hc => ?_)
          · replace hc := of_decide_eq_true hc
            rw [if_pos hc] at h
            have hc15 := hc
            clear hc
            refine WP.skip ?_
            refine QP.next ?_
            refine WP.pick [0, 3, 4, 39, 40] ?_
            refine WP.seq ?_
            refine WP.block ?_
            refine WP.seqP [0, 3, 4, 5, 39, 40] (L' := [(0, .pointer (some ⟨b0, 0, none⟩)), (3, .int .i64 v7), (4, .slice Ay11 y11.length cy11), (5, .int .i64 y12), (39, .int .i64 v7), (40, .int .i64 y12)]) (by kernel_rfl) ?_
            skip
            refine WP.any (N := 26) (S := [⟨some 43, [4], []⟩, ⟨some 44, [0], []⟩, ⟨some 45, [44], [1]⟩, ⟨some 46, [45], [2]⟩, ⟨some 47, [46], [3]⟩, ⟨some 48, [5], []⟩, ⟨some 49, [48], [5]⟩, ⟨some 50, [49], [6]⟩, ⟨some 51, [47, 50], [4, 7]⟩, ⟨some 52, [51], [8]⟩, ⟨some 53, [52], [9]⟩, ⟨some 54, [53], [10]⟩, ⟨some 55, [0], []⟩, ⟨some 56, [55], [12]⟩, ⟨some 57, [56], [13]⟩, ⟨some 58, [57], [14]⟩, ⟨some 59, [5], []⟩, ⟨some 60, [59], [16]⟩, ⟨some 61, [60], [17]⟩, ⟨some 62, [58, 61], [15, 18]⟩, ⟨some 63, [62], [19]⟩, ⟨some 64, [63], [20]⟩, ⟨some 65, [54, 64], [11, 21]⟩, ⟨some 66, [65], [22]⟩, ⟨some 67, [43, 66], [0, 23]⟩, ⟨some 4, [67], [0, 1, 2, 3, 4, 5, 6, 7, 8, 9, 10, 11, 12, 13, 14, 15, 16, 17, 18, 19, 20, 21, 22, 23, 24]⟩]) (kw := 24) (G0 := G) (Γ0 := Cy11 :: [(b0, .cells #[.slice Aa0_f0 a0.f0.length ca0_f0, .bool a0.f1] 73 (0, 0))] :: Γ) mo (by kernel_rfl) (fun hS => ?_)
            refine WA.pure [0, 1, 2, 3, 5, 6, 7, 12, 13, 14, 16, 17, 18] [0, 3, 4, 39, 40, 43, 46, 50, 57, 61] (m := 13) (b' := 487663) (L' := [(0, .pointer (some ⟨b0, 0, none⟩)), (3, .int .i64 v7), (4, .slice Ay11 y11.length cy11), (39, .int .i64 v7), (40, .int .i64 y12), (43, .slice Ay11 y11.length cy11), (46, .pointer (some ⟨b0, 0, none⟩)), (50, .int .i64 (IntKind.i64.wrap (1 + (IntKind.i64.wrap (2 * y12))))), (57, .pointer (some ⟨b0, 0, none⟩)), (61, .int .i64 (IntKind.i64.wrap (2 + (IntKind.i64.wrap (2 * y12)))))]) (by kernel_rfl) (NoPanic.block (NoPanic.then (NoPanic.then (NoPanic.block (NoPanic.then (NoPanic.then (NoPanic.body))))))) Under.refl hS (by kernel_rfl) ?_
            refine WA.tellD [24, 23, 22, 11, 10, 9, 8] (i := 4) (m := 12) (b' := 487679) (by kernel_rfl) (NoPanic.block (NoPanic.then (NoPanic.then (NoPanic.block (NoPanic.then (NoPanic.then (NoPanic.body))))))) Under.refl hS (by kernel_rfl) (op := .load 22 (.tmp 46)) (ty := 22) (d := some 47) (g := none) (by kernel_rfl) (by kernel_rfl) (by kernel_rfl) (Tells.load_box (i := 1) (b := b0) (o := 0) (agg := false) (by rfl) ag22 (by kernel_rfl) (fun _ => rfl) (Nat.le_of_ble_eq_true rfl) (v := .slice Aa0_f0 a0.f0.length ca0_f0) (by kernel_rfl)) ?_
            by_cases hb16 : 0 ≤ (IntKind.i64.wrap (1 + (IntKind.i64.wrap (2 * y12)))) ∧ (IntKind.i64.wrap (1 + (IntKind.i64.wrap (2 * y12)))) < (a0.f0.length : Int)
            case neg => rw [if_neg hb16] at h; cases h
            rw [if_pos hb16] at h
            refine WA.tellD [24, 23, 22, 11, 10, 9] (i := 8) (m := 11) (b' := 487935) (by kernel_rfl) (NoPanic.block (NoPanic.then (NoPanic.then (NoPanic.block (NoPanic.then (NoPanic.then (NoPanic.body))))))) Under.refl hS (by kernel_rfl) (op := .indexAddr 22 (.tmp 47) (.tmp 50)) (ty := 0) (d := some 51) (g := none) (by kernel_rfl) (by kernel_rfl) (by kernel_rfl) (Tells.indexAddr (A := Aa0_f0) (n := a0.f0.length) (c := ca0_f0) (k := .i64) (j := (IntKind.i64.wrap (1 + (IntKind.i64.wrap (2 * y12))))) (by kernel_rfl) (by kernel_rfl) (Ha0_f0.isSome hb16.1 hb16.2) hb16.1 hb16.2 sl22) ?_
            refine WA.tellDE [24, 23, 22, 11, 10] (i := 9) (m := 10) (b' := 488447) (by kernel_rfl) (NoPanic.block (NoPanic.then (NoPanic.then (NoPanic.block (NoPanic.then (NoPanic.then (NoPanic.body))))))) Under.refl hS (by kernel_rfl) (op := .load 5 (.tmp 51)) (ty := 5) (d := some 52) (g := none) (by kernel_rfl) (by kernel_rfl) (by kernel_rfl) (Ha0_f0.load (agg := false) hb16.1 hb16.2 0 ag5 (fun _ => rfl) (by kernel_rfl)) ?_
            rintro _ rfl
            refine WA.pure [10, 11] [0, 3, 4, 39, 40, 43, 54, 57, 61] (m := 8) (b' := 491519) (L' := [(0, .pointer (some ⟨b0, 0, none⟩)), (3, .int .i64 v7), (4, .slice Ay11 y11.length cy11), (39, .int .i64 v7), (40, .int .i64 y12), (43, .slice Ay11 y11.length cy11), (54, .int .i64 (shlK .i64 (IntKind.i64.wrap (a0.f0.getD (IntKind.i64.wrap (1 + (IntKind.i64.wrap (2 * y12)))).toNat 0)) 8)), (57, .pointer (some ⟨b0, 0, none⟩)), (61, .int .i64 (IntKind.i64.wrap (2 + (IntKind.i64.wrap (2 * y12)))))]) (by kernel_rfl) (NoPanic.block (NoPanic.then (NoPanic.then (NoPanic.block (NoPanic.then (NoPanic.then (NoPanic.body))))))) Under.refl hS (by kernel_rfl) ?_
            refine WA.tellD [24, 23, 22, 21, 20, 19] (i := 15) (m := 7) (b' := 524287) (by kernel_rfl) (NoPanic.block (NoPanic.then (NoPanic.then (NoPanic.block (NoPanic.then (NoPanic.then (NoPanic.body))))))) Under.refl hS (by kernel_rfl) (op := .load 22 (.tmp 57)) (ty := 22) (d := some 58) (g := none) (by kernel_rfl) (by kernel_rfl) (by kernel_rfl) (Tells.load_box (i := 1) (b := b0) (o := 0) (agg := false) (by rfl) ag22 (by kernel_rfl) (fun _ => rfl) (Nat.le_of_ble_eq_true rfl) (v := .slice Aa0_f0 a0.f0.length ca0_f0) (by kernel_rfl)) ?_
            by_cases hb17 : 0 ≤ (IntKind.i64.wrap (2 + (IntKind.i64.wrap (2 * y12)))) ∧ (IntKind.i64.wrap (2 + (IntKind.i64.wrap (2 * y12)))) < (a0.f0.length : Int)
            case neg => rw [if_neg hb17] at h; cases h
            rw [if_pos hb17] at h
            refine WA.tellD [24, 23, 22, 21, 20] (i := 19) (m := 6) (b' := 1048575) (by kernel_rfl) (NoPanic.block (NoPanic.then (NoPanic.then (NoPanic.block (NoPanic.then (NoPanic.then (NoPanic.body))))))) Under.refl hS (by kernel_rfl) (op := .indexAddr 22 (.tmp 58) (.tmp 61)) (ty := 0) (d := some 62) (g := none) (by kernel_rfl) (by kernel_rfl) (by kernel_rfl) (Tells.indexAddr (A := Aa0_f0) (n := a0.f0.length) (c := ca0_f0) (k := .i64) (j := (IntKind.i64.wrap (2 + (IntKind.i64.wrap (2 * y12))))) (by kernel_rfl) (by kernel_rfl) (Ha0_f0.isSome hb17.1 hb17.2) hb17.1 hb17.2 sl22) ?_
            refine WA.tellDE [24, 23, 22, 21] (i := 20) (m := 5) (b' := 2097151) (by kernel_rfl) (NoPanic.block (NoPanic.then (NoPanic.then (NoPanic.block (NoPanic.then (NoPanic.then (NoPanic.body))))))) Under.refl hS (by kernel_rfl) (op := .load 5 (.tmp 62)) (ty := 5) (d := some 63) (g := none) (by kernel_rfl) (by kernel_rfl) (by kernel_rfl) (Ha0_f0.load (agg := false) hb17.1 hb17.2 0 ag5 (fun _ => rfl) (by kernel_rfl)) ?_
            rintro _ rfl
            refine WA.pure [21, 22] [0, 3, 4, 39, 40, 43, 65] (m := 3) (b' := 8388607) (L' := [(0, .pointer (some ⟨b0, 0, none⟩)), (3, .int .i64 v7), (4, .slice Ay11 y11.length cy11), (39, .int .i64 v7), (40, .int .i64 y12), (43, .slice Ay11 y11.length cy11), (65, .int .i64 (Go.bits .or .i64 (shlK .i64 (IntKind.i64.wrap (a0.f0.getD (IntKind.i64.wrap (1 + (IntKind.i64.wrap (2 * y12)))).toNat 0)) 8) (IntKind.i64.wrap (a0.f0.getD (IntKind.i64.wrap (2 + (IntKind.i64.wrap (2 * y12)))).toNat 0))))]) (by kernel_rfl) (NoPanic.block (NoPanic.then (NoPanic.then (NoPanic.block (NoPanic.then (NoPanic.then (NoPanic.body))))))) Under.refl hS (by kernel_rfl) ?_
            refine WA.op (i := 23) (m := 2) (b' := 16777215) (by kernel_rfl) hS (by kernel_rfl) (op := .buildSlice 32 1 #[(0, (.tmp 65))]) (ty := 32) (d := some 66) (g := none) (by kernel_rfl) (by kernel_rfl) (by kernel_rfl) (Does.new (o := .cells #[.int .i64 (Go.bits .or .i64 (shlK .i64 (IntKind.i64.wrap (a0.f0.getD (IntKind.i64.wrap (1 + (IntKind.i64.wrap (2 * y12)))).toNat 0)) 8) (IntKind.i64.wrap (a0.f0.getD (IntKind.i64.wrap (2 + (IntKind.i64.wrap (2 * y12)))).toNat 0)))] 3 (0, 0)) (v := fun r => .slice (some ⟨r, 0, none⟩) 1 1) (fun r => by kernel_rfl)) ?_
            rintro _ _ _ ⟨b18, rfl, rfl, rfl⟩
            refine ⟨_, _, Under.cons Under.refl, Under.refl, ?_⟩
            have Ho20 : Ow (kInt .i64) G (some ⟨b18, 0, none⟩) 1 ([Go.bits .or .i64 (shlK .i64 (IntKind.i64.wrap (a0.f0.getD (IntKind.i64.wrap (1 + (IntKind.i64.wrap (2 * y12)))).toNat 0)) 8) (IntKind.i64.wrap (a0.f0.getD (IntKind.i64.wrap (2 + (IntKind.i64.wrap (2 * y12)))).toNat 0))] : List Int) [(b18, .cells #[.int .i64 (Go.bits .or .i64 (shlK .i64 (IntKind.i64.wrap (a0.f0.getD (IntKind.i64.wrap (1 + (IntKind.i64.wrap (2 * y12)))).toNat 0)) 8) (IntKind.i64.wrap (a0.f0.getD (IntKind.i64.wrap (2 + (IntKind.i64.wrap (2 * y12)))).toNat 0)))] 3 (0, 0))] := Ow.lit (kd := (kInt .i64)) (G := G) (b := b18) (T := 3) (xs := ([Go.bits .or .i64 (shlK .i64 (IntKind.i64.wrap (a0.f0.getD (IntKind.i64.wrap (1 + (IntKind.i64.wrap (2 * y12)))).toNat 0)) 8) (IntKind.i64.wrap (a0.f0.getD (IntKind.i64.wrap (2 + (IntKind.i64.wrap (2 * y12)))).toNat 0))] : List Int)) (cs := [.int .i64 (Go.bits .or .i64 (shlK .i64 (IntKind.i64.wrap (a0.f0.getD (IntKind.i64.wrap (1 + (IntKind.i64.wrap (2 * y12)))).toNat 0)) 8) (IntKind.i64.wrap (a0.f0.getD (IntKind.i64.wrap (2 + (IntKind.i64.wrap (2 * y12)))).toNat 0)))]) (.cons (x := (Go.bits .or .i64 (shlK .i64 (IntKind.i64.wrap (a0.f0.getD (IntKind.i64.wrap (1 + (IntKind.i64.wrap (2 * y12)))).toNat 0)) 8) (IntKind.i64.wrap (a0.f0.getD (IntKind.i64.wrap (2 + (IntKind.i64.wrap (2 * y12)))).toNat 0)))) (cs := [.int .i64 (Go.bits .or .i64 (shlK .i64 (IntKind.i64.wrap (a0.f0.getD (IntKind.i64.wrap (1 + (IntKind.i64.wrap (2 * y12)))).toNat 0)) 8) (IntKind.i64.wrap (a0.f0.getD (IntKind.i64.wrap (2 + (IntKind.i64.wrap (2 * y12)))).toNat 0)))]) (by exact rfl) .nil)
            by_cases hb21 : y11.length + ([Go.bits .or .i64 (shlK .i64 (IntKind.i64.wrap (a0.f0.getD (IntKind.i64.wrap (1 + (IntKind.i64.wrap (2 * y12)))).toNat 0)) 8) (IntKind.i64.wrap (a0.f0.getD (IntKind.i64.wrap (2 + (IntKind.i64.wrap (2 * y12)))).toNat 0))] : List Int).length ≤ 1073741824
            case neg => rw [if_neg hb21] at h; cases h
            rw [if_pos hb21] at h
            refine WA.opK (i := 24) (kw' := 26) (m := 1) (b' := 33554431) (by kernel_rfl) rfl hS (by kernel_rfl) (op := .call { callee := (.builtin .append), args := #[(.tmp 43), (.tmp 66)], argTypes := #[32, 32] }) (ty := 32) (d := some 67) (g := none) (by kernel_rfl) (by kernel_rfl) (by kernel_rfl) (Ow.append (ys := ([Go.bits .or .i64 (shlK .i64 (IntKind.i64.wrap (a0.f0.getD (IntKind.i64.wrap (1 + (IntKind.i64.wrap (2 * y12)))).toNat 0)) 8) (IntKind.i64.wrap (a0.f0.getD (IntKind.i64.wrap (2 + (IntKind.i64.wrap (2 * y12)))).toNat 0))] : List Int)) (v := .slice (some ⟨b18, 0, none⟩) ([Go.bits .or .i64 (shlK .i64 (IntKind.i64.wrap (a0.f0.getD (IntKind.i64.wrap (1 + (IntKind.i64.wrap (2 * y12)))).toNat 0)) 8) (IntKind.i64.wrap (a0.f0.getD (IntKind.i64.wrap (2 + (IntKind.i64.wrap (2 * y12)))).toNat 0))] : List Int).length 1) Hy11 (i := 1) rfl (by kernel_rfl) (by kernel_rfl) (Ho20.src (i := 0) rfl) sl32 ze3 nt32 (by decide) hb21) ?_
            rintro _ _ _ ⟨rfl, AN22, cN22, CN22, rfl, HN22, rfl⟩
            refine ⟨_, _, Under.refl, ?_⟩
            refine WA.pure [25] [0, 3, 4, 39, 40] (m := 0) (b' := 67108863) (L' := [(0, .pointer (some ⟨b0, 0, none⟩)), (3, .int .i64 v7), (4, .slice AN22 (y11 ++ ([Go.bits .or .i64 (shlK .i64 (IntKind.i64.wrap (a0.f0.getD (IntKind.i64.wrap (1 + (IntKind.i64.wrap (2 * y12)))).toNat 0)) 8) (IntKind.i64.wrap (a0.f0.getD (IntKind.i64.wrap (2 + (IntKind.i64.wrap (2 * y12)))).toNat 0))] : List Int)).length cN22), (39, .int .i64 v7), (40, .int .i64 y12)]) (by kernel_rfl) (NoPanic.block (NoPanic.then (NoPanic.then (NoPanic.block (NoPanic.then (NoPanic.then (NoPanic.body))))))) Under.refl hS (by kernel_rfl) ?_
            refine WA.done hS (by kernel_rfl) ?_
            refine QP.pick [0, 3, 4, 39, 40] ?_
            refine QP.blockN ?_
            refine QP.next ?_
            refine WP.pick [0, 3, 4, 39, 40] ?_
            refine WP.regionP [0, 3, 4, 39, 40] (L' := [(0, .pointer (some ⟨b0, 0, none⟩)), (3, .int .i64 v7), (4, .slice AN22 (y11 ++ ([Go.bits .or .i64 (shlK .i64 (IntKind.i64.wrap (a0.f0.getD (IntKind.i64.wrap (1 + (IntKind.i64.wrap (2 * y12)))).toNat 0)) 8) (IntKind.i64.wrap (a0.f0.getD (IntKind.i64.wrap (2 + (IntKind.i64.wrap (2 * y12)))).toNat 0))] : List Int)).length cN22), (39, .int .i64 v7), (40, .int .i64 (IntKind.i64.wrap (y12 + 1)))]) (by kernel_rfl) ?_
            refine QP.dropAt 0 ?_
            refine QP.front (i := 1) rfl ?_
            refine QP.front (i := 1) rfl ?_
            refine QP.pick [0, 3, 4, 39, 40] ?_
            exact QP.meet ⟨kn14, Nat.lt_succ_self _, (y11 ++ ([Go.bits .or .i64 (shlK .i64 (IntKind.i64.wrap (a0.f0.getD (IntKind.i64.wrap (1 + (IntKind.i64.wrap (2 * y12)))).toNat 0)) 8) (IntKind.i64.wrap (a0.f0.getD (IntKind.i64.wrap (2 + (IntKind.i64.wrap (2 * y12)))).toNat 0))] : List Int)), (IntKind.i64.wrap (y12 + 1)), h, AN22, cN22, CN22, rfl, rfl, rfl, HN22⟩
          · replace hc := of_decide_eq_false hc
            rw [if_neg hc] at h
            have hc15 := hc
            clear hc
            refine WP.exit ?_
            refine QP.thenE ?_
            refine QP.thenE ?_
            refine QP.blockE ?_
            refine QP.pick [0, 3, 4] ?_
            exact QP.meet ⟨_, Option.some.inj h, Ay11, cy11, Cy11, rfl, rfl, rfl, Hy11⟩
      · rintro _ _ _ ⟨s9, rfl, As9, cs9, Cs9, rfl, rfl, rfl, Hs9⟩
        clear h
        replace h := hk10
        refine QP.next ?_
        refine WP.pick [0, 3, 4] ?_
        refine WP.seqR ?_
        refine WL.pure 0 4 [3, 4, 69, 72] (L' := [(3, .int .i64 v7), (4, .slice As9 s9.length cs9), (69, .pointer (some ⟨b0, 0, none⟩)), (72, .pointer (some ⟨b0, 0, none⟩))]) (by kernel_rfl) (by decide) ?_
        refine WL.tell (op := .load 22 (.tmp 72)) (ty := 22) (d := some 73) (g := none) (by kernel_rfl) (by kernel_rfl) (by kernel_rfl) (Tells.load_box (i := 1) (b := b0) (o := 0) (agg := false) (by rfl) ag22 (by kernel_rfl) (fun _ => rfl) (Nat.le_of_ble_eq_true rfl) (v := .slice Aa0_f0 a0.f0.length ca0_f0) (by kernel_rfl)) ?_
        refine WL.pure 5 8 [4, 69, 73, 76] (L' := [(4, .slice As9 s9.length cs9), (69, .pointer (some ⟨b0, 0, none⟩)), (73, .slice Aa0_f0 a0.f0.length ca0_f0), (76, .int .i64 (IntKind.i64.wrap (1 + (IntKind.i64.wrap (2 * v7)))))]) (by kernel_rfl) (by decide) ?_
        by_cases hb23 : 0 ≤ (IntKind.i64.wrap (1 + (IntKind.i64.wrap (2 * v7)))) ∧ (IntKind.i64.wrap (1 + (IntKind.i64.wrap (2 * v7)))) ≤ (a0.f0.length : Int) ∧ (a0.f0.length : Int) ≤ (a0.f0.length : Int)
        case neg => rw [if_neg hb23] at h; cases h
        rw [if_pos hb23] at h
        refine WL.tellS (op := .slice 22 (.tmp 73) (some (.tmp 76)) none none) (ty := 22) (d := some 77) (g := none) (by kernel_rfl) (by kernel_rfl) (by kernel_rfl) (Ha0_f0.slice (l := (IntKind.i64.wrap (1 + (IntKind.i64.wrap (2 * v7))))) (h := (a0.f0.length : Int)) (by kernel_rfl) ⟨.i64, by kernel_rfl⟩ rfl hb23.1 hb23.2.1 hb23.2.2 sl22) ?_
        rintro AP24 cP24 HP24
        refine WL.pure 9 11 [4, 77, 79] (L' := [(4, .slice As9 s9.length cs9), (77, .slice AP24 ((a0.f0.take (a0.f0.length : Int).toNat).drop (IntKind.i64.wrap (1 + (IntKind.i64.wrap (2 * v7)))).toNat).length cP24), (79, .pointer (some ⟨b0, 0, none⟩))]) (by kernel_rfl) (by decide) ?_
        refine WL.op (op := .store 22 (.tmp 79) (.tmp 77)) (ty := 0) (d := none) (g := none) (by kernel_rfl) (by kernel_rfl) (by kernel_rfl) (Does.store_box (i := 1) (b := b0) (o := 0) (v := .slice AP24 ((a0.f0.take (a0.f0.length : Int).toNat).drop (IntKind.i64.wrap (1 + (IntKind.i64.wrap (2 * v7)))).toNat).length cP24) (by rfl) sz22 (by kernel_rfl) (by kernel_rfl) (by kernel_rfl) (Free.zero _) (Nat.le_of_ble_eq_true rfl) (cells' := #[.slice AP24 ((a0.f0.take (a0.f0.length : Int).toNat).drop (IntKind.i64.wrap (1 + (IntKind.i64.wrap (2 * v7)))).toNat).length cP24, .bool a0.f1]) (by kernel_rfl)) ?_
        rintro _ _ _ ⟨rfl, rfl, rfl⟩
        refine WL.restQ 12 [4] (L' := [(4, .slice As9 s9.length cs9)]) (by kernel_rfl) ?_
        refine WP.seqP [2] (L' := [(2, .slice As9 s9.length cs9)]) (by kernel_rfl) ?_
        refine WP.ret ?_
        obtain rfl := Option.some.inj h
        exact QP.returned [2] [.slice As9 s9.length cs9] _ (by kernel_rfl) (by kernel_rfl) (by kernel_rfl) (fun W hI => ⟨_, _, _, rfl, ⟨As9, cs9, Cs9, AP24, cP24, rfl, Hs9, HP24, rfl, rfl⟩, hI⟩)

/-! ### (*grapevine/segment.body).entry: function 39 -/
def segment_body_entry (k : Nat) (a0 : T73) (a1 : Int) : Option (T41 × T73) := (if a1 = 1 then ((segment_body_vector k a0).bind fun t4 => (if (!t4.2.f1) = true then ((segment_body_vector k t4.2).bind fun t9 => some ((⟨a1, t4.1, t9.1, 0, 0, 0, 0, (⟨#[]⟩ : ByteArray)⟩ : T41), t9.2)) else some ((⟨a1, t4.1, ([] : List Int), 0, 0, 0, 0, (⟨#[]⟩ : ByteArray)⟩ : T41), t4.2))) else (if a1 = 3 then ((segment_body_vector k a0).bind fun t14 => some ((⟨a1, ([] : List Int), t14.1, 0, 0, 0, 0, (⟨#[]⟩ : ByteArray)⟩ : T41), t14.2)) else (if a1 = 2 then ((record_Read k a0.f0 0).bind fun t19 => (if 0 ≤ t19.2.1 ∧ t19.2.1 ≤ (a0.f0.length : Int) ∧ (a0.f0.length : Int) ≤ (a0.f0.length : Int) then some ((⟨a1, ([] : List Int), ([] : List Int), t19.1.f0, t19.1.f1, t19.1.f2, t19.1.f3, t19.1.f4⟩ : T41), (⟨((a0.f0.take (a0.f0.length : Int).toNat).drop t19.2.1.toNat), (!t19.2.2)⟩ : T73)) else none)) else some ((⟨a1, ([] : List Int), ([] : List Int), 0, 0, 0, 0, (⟨#[]⟩ : ByteArray)⟩ : T41), a0))))
set_option maxHeartbeats 4000000 in
theorem segment_body_entry_calls {B : World} {G : GMap} {Γ : List Chunk} {W : World} (HT : Tabs B G) (k : Nat) (a0 : T73) (a1 : Int) (b0 : Nat) (Aa0_f0 : Option Addr) (ca0_f0 : Nat) (Ha0_f0 : Rd (kInt .u8) G Aa0_f0 ca0_f0 a0.f0) (r : T41 × T73) (h : segment_body_entry k a0 a1 = some r) (hI : Inv B G ([(b0, .cells #[.slice Aa0_f0 a0.f0.length ca0_f0, .bool a0.f1] 73 (0, 0))] :: Γ) W) :
    Calls Tryd.prog 39 [.pointer (some ⟨b0, 0, none⟩), .int .i64 a1].toArray W (Ret B (fun v G' Γ' => ∃ (AR_0 : Option Addr), ∃ (cR_0 : Nat), ∃ (CR_0 : Chunk), ∃ (AR_1 : Option Addr), ∃ (cR_1 : Nat), ∃ (CR_1 : Chunk), ∃ (ARp0 : Option Addr), ∃ (cRp0 : Nat), v = .agg #[.int .i64 r.1.f0, .slice AR_0 r.1.f1.length cR_0, .slice AR_1 r.1.f2.length cR_1, .int .i64 r.1.f3, .int .i64 r.1.f4, .int .i64 r.1.f5, .int .i64 r.1.f6, .string r.1.f7] ∧ Ow (kInt .i64) G' AR_0 cR_0 r.1.f1 CR_0 ∧ Ow (kInt .i64) G' AR_1 cR_1 r.1.f2 CR_1 ∧ Rd (kInt .u8) G' ARp0 cRp0 r.2.f0 ∧ G = G' ∧ CR_0 :: CR_1 :: [(b0, .cells #[.slice ARp0 r.2.f0.length cRp0, .bool r.2.f1] 73 (0, 0))] :: Γ = Γ')) := by
  refine calls_WP (Γ := [(b0, .cells #[.slice Aa0_f0 a0.f0.length ca0_f0, .bool a0.f1] 73 (0, 0))] :: Γ) (G := G) (B := B) Tryd.func39 rfl (by kernel_rfl) ?_ hI
  clear hI
  unfold segment_body_entry at h
  refine WP.seqR ?_
  refine WL.op (op := .alloc 41) (ty := 0) (d := some 4) (g := none) (by kernel_rfl) (by kernel_rfl) (by kernel_rfl) (Does.new (o := .cells #[.int .i64 0, .slice none 0 0, .slice none 0 0, .int .i64 0, .int .i64 0, .int .i64 0, .int .i64 0, .string (⟨#[]⟩ : ByteArray)] 41 (0, 0)) (v := fun r => .pointer (some ⟨r, 0, none⟩)) (fun r => by kernel_rfl)) ?_
  rintro _ _ _ ⟨b1, rfl, rfl, rfl⟩
  refine WL.restQ 1 [0, 1, 4] (L' := [(0, .pointer (some ⟨b0, 0, none⟩)), (1, .int .i64 a1), (4, .pointer (some ⟨b1, 0, none⟩))]) (by kernel_rfl) ?_
  refine WP.seqR ?_
  refine WL.pure 0 2 [0, 1, 4, 10] (L' := [(0, .pointer (some ⟨b0, 0, none⟩)), (1, .int .i64 a1), (4, .pointer (some ⟨b1, 0, none⟩)), (10, .agg #[.int .i64 a1, .slice none 0 0, .slice none 0 0, .int .i64 0, .int .i64 0, .int .i64 0, .int .i64 0, .string (⟨#[]⟩ : ByteArray)])]) (by kernel_rfl) (by decide) ?_
  refine WL.op (op := .alloc 41) (ty := 0) (d := some 5) (g := none) (by kernel_rfl) (by kernel_rfl) (by kernel_rfl) (Does.new (o := .cells #[.int .i64 0, .slice none 0 0, .slice none 0 0, .int .i64 0, .int .i64 0, .int .i64 0, .int .i64 0, .string (⟨#[]⟩ : ByteArray)] 41 (0, 0)) (v := fun r => .pointer (some ⟨r, 0, none⟩)) (fun r => by kernel_rfl)) ?_
  rintro _ _ _ ⟨b2, rfl, rfl, rfl⟩
  refine WL.op (op := .store 41 (.tmp 5) (.tmp 10)) (ty := 0) (d := none) (g := none) (by kernel_rfl) (by kernel_rfl) (by kernel_rfl) (Does.store_box (i := 0) (b := b2) (o := 0) (v := .agg #[.int .i64 a1, .slice none 0 0, .slice none 0 0, .int .i64 0, .int .i64 0, .int .i64 0, .int .i64 0, .string (⟨#[]⟩ : ByteArray)]) (by rfl) sz41 (by kernel_rfl) (by kernel_rfl) (by kernel_rfl) (Free.zero _) (Nat.le_of_ble_eq_true rfl) (cells' := #[.int .i64 a1, .slice none 0 0, .slice none 0 0, .int .i64 0, .int .i64 0, .int .i64 0, .int .i64 0, .string (⟨#[]⟩ : ByteArray)]) (by kernel_rfl)) ?_
  rintro _ _ _ ⟨rfl, rfl, rfl⟩
  refine WL.restQ 4 [0, 1, 4, 5] (L' := [(0, .pointer (some ⟨b0, 0, none⟩)), (1, .int .i64 a1), (4, .pointer (some ⟨b1, 0, none⟩)), (5, .pointer (some ⟨b2, 0, none⟩))]) (by kernel_rfl) ?_
  refine WP.seq ?_
  refine WP.seqP [0, 4, 5, 11] (L' := [(0, .pointer (some ⟨b0, 0, none⟩)), (4, .pointer (some ⟨b1, 0, none⟩)), (5, .pointer (some ⟨b2, 0, none⟩)), (11, .int .i64 a1)]) (by kernel_rfl) ?_
  refine WP.block ?_
  refine WP.seqP [0, 4, 5, 11, 12] (L' := [(0, .pointer (some ⟨b0, 0, none⟩)), (4, .pointer (some ⟨b1, 0, none⟩)), (5, .pointer (some ⟨b2, 0, none⟩)), (11, .int .i64 a1), (12, .bool (a1 == 1))]) (by kernel_rfl) ?_
  refine WP.cond (b := (a1 == 1)) (by kernel_rfl) (fun hc => ?_) (fun hc => ?_)
  · replace hc := eq_of_beq hc
    rw [if_pos hc] at h
    have hc3 := hc
    clear hc
    refine WP.seqR ?_
    refine WL.pure 0 1 [0, 4, 5, 14] (L' := [(0, .pointer (some ⟨b0, 0, none⟩)), (4, .pointer (some ⟨b1, 0, none⟩)), (5, .pointer (some ⟨b2, 0, none⟩)), (14, .pointer (some ⟨b0, 0, none⟩))]) (by kernel_rfl) (by decide) ?_
    refine WL.front (i := 2) rfl ?_
    rw [Option.bind_eq_some_iff] at h
    obtain ⟨t4, ht5, h⟩ := h
    refine WL.op (op := .call { callee := (.value (.func 75)), args := #[(.tmp 14)], argTypes := #[71] }) (ty := 32) (d := some 15) (g := none) (by kernel_rfl) (by kernel_rfl) (by kernel_rfl) (Does.call (f := 75) (args := [.pointer (some ⟨b0, 0, none⟩)]) (by kernel_rfl) (fun W hI => (segment_body_vector_calls k a0 b0 Aa0_f0 ca0_f0 Ha0_f0 t4 ht5 hI))) ?_
    rintro _ _ _ ⟨AR6, cR6, CR6, AR6p0, cR6p0, rfl, HR6, HR6p0, rfl, rfl⟩
    refine WL.pure 2 3 [0, 4, 5, 15, 16] (L' := [(0, .pointer (some ⟨b0, 0, none⟩)), (4, .pointer (some ⟨b1, 0, none⟩)), (5, .pointer (some ⟨b2, 0, none⟩)), (15, .slice AR6 t4.1.length cR6), (16, .pointer (some ⟨b2, 1, none⟩))]) (by kernel_rfl) (by decide) ?_
    refine WL.op (op := .store 32 (.tmp 16) (.tmp 15)) (ty := 0) (d := none) (g := none) (by kernel_rfl) (by kernel_rfl) (by kernel_rfl) (Does.store_box (i := 2) (b := b2) (o := 1) (v := .slice AR6 t4.1.length cR6) (by rfl) sz32 (by kernel_rfl) (by kernel_rfl) (by kernel_rfl) (Free.zero _) (Nat.le_of_ble_eq_true rfl) (cells' := #[.int .i64 a1, .slice AR6 t4.1.length cR6, .slice none 0 0, .int .i64 0, .int .i64 0, .int .i64 0, .int .i64 0, .string (⟨#[]⟩ : ByteArray)]) (by kernel_rfl)) ?_
    rintro _ _ _ ⟨rfl, rfl, rfl⟩
    refine WL.restQ 4 [0, 4, 5] (L' := [(0, .pointer (some ⟨b0, 0, none⟩)), (4, .pointer (some ⟨b1, 0, none⟩)), (5, .pointer (some ⟨b2, 0, none⟩))]) (by kernel_rfl) ?_
    refine WP.seqR ?_
    refine WL.pure 0 3 [0, 4, 5, 19] (L' := [(0, .pointer (some ⟨b0, 0, none⟩)), (4, .pointer (some ⟨b1, 0, none⟩)), (5, .pointer (some ⟨b2, 0, none⟩)), (19, .pointer (some ⟨b0, 1, none⟩))]) (by kernel_rfl) (by decide) ?_
    refine WL.tell (op := .load 4 (.tmp 19)) (ty := 4) (d := some 20) (g := none) (by kernel_rfl) (by kernel_rfl) (by kernel_rfl) (Tells.load_box (i := 1) (b := b0) (o := 1) (agg := false) (by rfl) ag4 (by kernel_rfl) (fun _ => rfl) (Nat.le_of_ble_eq_true rfl) (v := .bool t4.2.f1) (by kernel_rfl)) ?_
    refine WL.restQ 4 [0, 4, 5, 21] (L' := [(0, .pointer (some ⟨b0, 0, none⟩)), (4, .pointer (some ⟨b1, 0, none⟩)), (5, .pointer (some ⟨b2, 0, none⟩)), (21, .bool (!t4.2.f1))]) (by kernel_rfl) ?_
    refine WP.cond (b := (!t4.2.f1)) (by kernel_rfl) (fun hc => ?_) (fun hc => ?_)
    · replace hc := hc
      rw [if_pos hc] at h
      have hc8 := hc
      clear hc
      refine WP.region ?_
      refine WL.pure 0 1 [4, 5, 22] (L' := [(4, .pointer (some ⟨b1, 0, none⟩)), (5, .pointer (some ⟨b2, 0, none⟩)), (22, .pointer (some ⟨b0, 0, none⟩))]) (by kernel_rfl) (by decide) ?_
      refine WL.front (i := 1) rfl ?_
      rw [Option.bind_eq_some_iff] at h
      obtain ⟨t9, ht10, h⟩ := h
      refine WL.op (op := .call { callee := (.value (.func 75)), args := #[(.tmp 22)], argTypes := #[71] }) (ty := 32) (d := some 23) (g := none) (by kernel_rfl) (by kernel_rfl) (by kernel_rfl) (Does.call (f := 75) (args := [.pointer (some ⟨b0, 0, none⟩)]) (by kernel_rfl) (fun W hI => (segment_body_vector_calls k t4.2 b0 AR6p0 cR6p0 HR6p0 t9 ht10 hI))) ?_
      rintro _ _ _ ⟨AR11, cR11, CR11, AR11p0, cR11p0, rfl, HR11, HR11p0, rfl, rfl⟩
      refine WL.pure 2 3 [4, 5, 23, 24] (L' := [(4, .pointer (some ⟨b1, 0, none⟩)), (5, .pointer (some ⟨b2, 0, none⟩)), (23, .slice AR11 t9.1.length cR11), (24, .pointer (some ⟨b2, 2, none⟩))]) (by kernel_rfl) (by decide) ?_
      refine WL.op (op := .store 32 (.tmp 24) (.tmp 23)) (ty := 0) (d := none) (g := none) (by kernel_rfl) (by kernel_rfl) (by kernel_rfl) (Does.store_box (i := 3) (b := b2) (o := 2) (v := .slice AR11 t9.1.length cR11) (by rfl) sz32 (by kernel_rfl) (by kernel_rfl) (by kernel_rfl) (Free.zero _) (Nat.le_of_ble_eq_true rfl) (cells' := #[.int .i64 a1, .slice AR6 t4.1.length cR6, .slice AR11 t9.1.length cR11, .int .i64 0, .int .i64 0, .int .i64 0, .int .i64 0, .string (⟨#[]⟩ : ByteArray)]) (by kernel_rfl)) ?_
      rintro _ _ _ ⟨rfl, rfl, rfl⟩
      refine WL.rest 4 [4, 5] (L' := [(4, .pointer (some ⟨b1, 0, none⟩)), (5, .pointer (some ⟨b2, 0, none⟩))]) (by kernel_rfl) ?_
      refine QP.blockN ?_
      refine QP.next ?_
      refine WP.pick [4, 5] ?_
      refine WP.seqR ?_
      refine WL.tell (op := .load 41 (.tmp 5)) (ty := 41) (d := some 57) (g := none) (by kernel_rfl) (by kernel_rfl) (by kernel_rfl) (Tells.load_box (i := 3) (b := b2) (o := 0) (agg := true) (by rfl) ag41 (by kernel_rfl) (fun h => by cases h) (Nat.le_of_ble_eq_true rfl) (v := .agg #[.int .i64 a1, .slice AR6 t4.1.length cR6, .slice AR11 t9.1.length cR11, .int .i64 0, .int .i64 0, .int .i64 0, .int .i64 0, .string (⟨#[]⟩ : ByteArray)]) (by kernel_rfl)) ?_
      refine WL.op (op := .store 41 (.tmp 4) (.tmp 57)) (ty := 0) (d := none) (g := none) (by kernel_rfl) (by kernel_rfl) (by kernel_rfl) (Does.store_box (i := 4) (b := b1) (o := 0) (v := .agg #[.int .i64 a1, .slice AR6 t4.1.length cR6, .slice AR11 t9.1.length cR11, .int .i64 0, .int .i64 0, .int .i64 0, .int .i64 0, .string (⟨#[]⟩ : ByteArray)]) (by rfl) sz41 (by kernel_rfl) (by kernel_rfl) (by kernel_rfl) (Free.zero _) (Nat.le_of_ble_eq_true rfl) (cells' := #[.int .i64 a1, .slice AR6 t4.1.length cR6, .slice AR11 t9.1.length cR11, .int .i64 0, .int .i64 0, .int .i64 0, .int .i64 0, .string (⟨#[]⟩ : ByteArray)]) (by kernel_rfl)) ?_
      rintro _ _ _ ⟨rfl, rfl, rfl⟩
      refine WL.restQ 2 [4] (L' := [(4, .pointer (some ⟨b1, 0, none⟩))]) (by kernel_rfl) ?_
      refine WP.dropAt 3 ?_
      refine WP.ret ?_
      obtain rfl := Option.some.inj h
      refine QP.front (i := 3) rfl ?_
      refine QP.front (i := 2) rfl ?_
      refine QP.front (i := 2) rfl ?_
      refine QP.front (i := 3) rfl ?_
      exact QP.returnedM (rs := [.cell 4 41]) (by kernel_rfl) (ResAll.cons (Res1.box (p := 4) (i := 3) (o := 0) (agg := true) (by rfl) ag41 (by kernel_rfl) (fun h => by cases h) (Nat.le_of_ble_eq_true rfl) (v := .agg #[.int .i64 a1, .slice AR6 t4.1.length cR6, .slice AR11 t9.1.length cR11, .int .i64 0, .int .i64 0, .int .i64 0, .int .i64 0, .string (⟨#[]⟩ : ByteArray)]) (by kernel_rfl)) ResAll.nil) (by kernel_rfl) (fun W hI => ⟨_, _, _, rfl, ⟨AR6, cR6, CR6, AR11, cR11, CR11, AR11p0, cR11p0, rfl, HR6, HR11, HR11p0, rfl, rfl⟩, (hI.less 3 rfl)⟩)
    · replace hc := (Bool.eq_false_iff.1 hc)
      rw [if_neg hc] at h
      have hc8 := hc
      clear hc
      refine WP.skip ?_
      refine QP.blockN ?_
      refine QP.next ?_
      refine WP.pick [4, 5] ?_
      refine WP.seqR ?_
      refine WL.tell (op := .load 41 (.tmp 5)) (ty := 41) (d := some 57) (g := none) (by kernel_rfl) (by kernel_rfl) (by kernel_rfl) (Tells.load_box (i := 2) (b := b2) (o := 0) (agg := true) (by rfl) ag41 (by kernel_rfl) (fun h => by cases h) (Nat.le_of_ble_eq_true rfl) (v := .agg #[.int .i64 a1, .slice AR6 t4.1.length cR6, .slice none 0 0, .int .i64 0, .int .i64 0, .int .i64 0, .int .i64 0, .string (⟨#[]⟩ : ByteArray)]) (by kernel_rfl)) ?_
      refine WL.op (op := .store 41 (.tmp 4) (.tmp 57)) (ty := 0) (d := none) (g := none) (by kernel_rfl) (by kernel_rfl) (by kernel_rfl) (Does.store_box (i := 3) (b := b1) (o := 0) (v := .agg #[.int .i64 a1, .slice AR6 t4.1.length cR6, .slice none 0 0, .int .i64 0, .int .i64 0, .int .i64 0, .int .i64 0, .string (⟨#[]⟩ : ByteArray)]) (by rfl) sz41 (by kernel_rfl) (by kernel_rfl) (by kernel_rfl) (Free.zero _) (Nat.le_of_ble_eq_true rfl) (cells' := #[.int .i64 a1, .slice AR6 t4.1.length cR6, .slice none 0 0, .int .i64 0, .int .i64 0, .int .i64 0, .int .i64 0, .string (⟨#[]⟩ : ByteArray)]) (by kernel_rfl)) ?_
      rintro _ _ _ ⟨rfl, rfl, rfl⟩
      refine WL.restQ 2 [4] (L' := [(4, .pointer (some ⟨b1, 0, none⟩))]) (by kernel_rfl) ?_
      refine WP.dropAt 2 ?_
      refine WP.ret ?_
      obtain rfl := Option.some.inj h
      refine QP.addNil ?_
      refine QP.front (i := 3) rfl ?_
      refine QP.front (i := 3) rfl ?_
      refine QP.front (i := 2) rfl ?_
      refine QP.front (i := 3) rfl ?_
      exact QP.returnedM (rs := [.cell 4 41]) (by kernel_rfl) (ResAll.cons (Res1.box (p := 4) (i := 3) (o := 0) (agg := true) (by rfl) ag41 (by kernel_rfl) (fun h => by cases h) (Nat.le_of_ble_eq_true rfl) (v := .agg #[.int .i64 a1, .slice AR6 t4.1.length cR6, .slice none ([] : List Int).length 0, .int .i64 0, .int .i64 0, .int .i64 0, .int .i64 0, .string (⟨#[]⟩ : ByteArray)]) (by kernel_rfl)) ResAll.nil) (by kernel_rfl) (fun W hI => ⟨_, _, _, rfl, ⟨AR6, cR6, CR6, none, 0, [], AR6p0, cR6p0, rfl, HR6, (Ow.nil (kInt .i64) _), HR6p0, rfl, rfl⟩, (hI.less 3 rfl)⟩)
  · replace hc := ne_of_beq_false hc
    rw [if_neg hc] at h
    have hc3 := hc
    clear hc
    refine WP.seqP [0, 4, 5, 11, 25] (L' := [(0, .pointer (some ⟨b0, 0, none⟩)), (4, .pointer (some ⟨b1, 0, none⟩)), (5, .pointer (some ⟨b2, 0, none⟩)), (11, .int .i64 a1), (25, .bool (a1 == 3))]) (by kernel_rfl) ?_
    refine WP.cond (b := (a1 == 3)) (by kernel_rfl) (fun hc => ?_) (fun hc => ?_)
    · replace hc := eq_of_beq hc
      rw [if_pos hc] at h
      have hc13 := hc
      clear hc
      refine WP.region ?_
      refine WL.pure 0 1 [4, 5, 27] (L' := [(4, .pointer (some ⟨b1, 0, none⟩)), (5, .pointer (some ⟨b2, 0, none⟩)), (27, .pointer (some ⟨b0, 0, none⟩))]) (by kernel_rfl) (by decide) ?_
      refine WL.front (i := 2) rfl ?_
      rw [Option.bind_eq_some_iff] at h
      obtain ⟨t14, ht15, h⟩ := h
      refine WL.op (op := .call { callee := (.value (.func 75)), args := #[(.tmp 27)], argTypes := #[71] }) (ty := 32) (d := some 28) (g := none) (by kernel_rfl) (by kernel_rfl) (by kernel_rfl) (Does.call (f := 75) (args := [.pointer (some ⟨b0, 0, none⟩)]) (by kernel_rfl) (fun W hI => (segment_body_vector_calls k a0 b0 Aa0_f0 ca0_f0 Ha0_f0 t14 ht15 hI))) ?_
      rintro _ _ _ ⟨AR16, cR16, CR16, AR16p0, cR16p0, rfl, HR16, HR16p0, rfl, rfl⟩
      refine WL.pure 2 3 [4, 5, 28, 29] (L' := [(4, .pointer (some ⟨b1, 0, none⟩)), (5, .pointer (some ⟨b2, 0, none⟩)), (28, .slice AR16 t14.1.length cR16), (29, .pointer (some ⟨b2, 2, none⟩))]) (by kernel_rfl) (by decide) ?_
      refine WL.op (op := .store 32 (.tmp 29) (.tmp 28)) (ty := 0) (d := none) (g := none) (by kernel_rfl) (by kernel_rfl) (by kernel_rfl) (Does.store_box (i := 2) (b := b2) (o := 2) (v := .slice AR16 t14.1.length cR16) (by rfl) sz32 (by kernel_rfl) (by kernel_rfl) (by kernel_rfl) (Free.zero _) (Nat.le_of_ble_eq_true rfl) (cells' := #[.int .i64 a1, .slice none 0 0, .slice AR16 t14.1.length cR16, .int .i64 0, .int .i64 0, .int .i64 0, .int .i64 0, .string (⟨#[]⟩ : ByteArray)]) (by kernel_rfl)) ?_
      rintro _ _ _ ⟨rfl, rfl, rfl⟩
      refine WL.rest 4 [4, 5] (L' := [(4, .pointer (some ⟨b1, 0, none⟩)), (5, .pointer (some ⟨b2, 0, none⟩))]) (by kernel_rfl) ?_
      refine QP.blockN ?_
      refine QP.next ?_
      refine WP.pick [4, 5] ?_
      refine WP.seqR ?_
      refine WL.tell (op := .load 41 (.tmp 5)) (ty := 41) (d := some 57) (g := none) (by kernel_rfl) (by kernel_rfl) (by kernel_rfl) (Tells.load_box (i := 2) (b := b2) (o := 0) (agg := true) (by rfl) ag41 (by kernel_rfl) (fun h => by cases h) (Nat.le_of_ble_eq_true rfl) (v := .agg #[.int .i64 a1, .slice none 0 0, .slice AR16 t14.1.length cR16, .int .i64 0, .int .i64 0, .int .i64 0, .int .i64 0, .string (⟨#[]⟩ : ByteArray)]) (by kernel_rfl)) ?_
      refine WL.op (op := .store 41 (.tmp 4) (.tmp 57)) (ty := 0) (d := none) (g := none) (by kernel_rfl) (by kernel_rfl) (by kernel_rfl) (Does.store_box (i := 3) (b := b1) (o := 0) (v := .agg #[.int .i64 a1, .slice none 0 0, .slice AR16 t14.1.length cR16, .int .i64 0, .int .i64 0, .int .i64 0, .int .i64 0, .string (⟨#[]⟩ : ByteArray)]) (by rfl) sz41 (by kernel_rfl) (by kernel_rfl) (by kernel_rfl) (Free.zero _) (Nat.le_of_ble_eq_true rfl) (cells' := #[.int .i64 a1, .slice none 0 0, .slice AR16 t14.1.length cR16, .int .i64 0, .int .i64 0, .int .i64 0, .int .i64 0, .string (⟨#[]⟩ : ByteArray)]) (by kernel_rfl)) ?_
      rintro _ _ _ ⟨rfl, rfl, rfl⟩
      refine WL.restQ 2 [4] (L' := [(4, .pointer (some ⟨b1, 0, none⟩))]) (by kernel_rfl) ?_
      refine WP.dropAt 2 ?_
      refine WP.ret ?_
      obtain rfl := Option.some.inj h
      refine QP.addNil ?_
      exact QP.returnedM (rs := [.cell 4 41]) (by kernel_rfl) (ResAll.cons (Res1.box (p := 4) (i := 3) (o := 0) (agg := true) (by rfl) ag41 (by kernel_rfl) (fun h => by cases h) (Nat.le_of_ble_eq_true rfl) (v := .agg #[.int .i64 a1, .slice none ([] : List Int).length 0, .slice AR16 t14.1.length cR16, .int .i64 0, .int .i64 0, .int .i64 0, .int .i64 0, .string (⟨#[]⟩ : ByteArray)]) (by kernel_rfl)) ResAll.nil) (by kernel_rfl) (fun W hI => ⟨_, _, _, rfl, ⟨none, 0, [], AR16, cR16, CR16, AR16p0, cR16p0, rfl, (Ow.nil (kInt .i64) _), HR16, HR16p0, rfl, rfl⟩, (hI.less 3 rfl)⟩)
    · replace hc := ne_of_beq_false hc
      rw [if_neg hc] at h
      have hc13 := hc
      clear hc
      refine WP.seqP [0, 4, 5, 30] (L' := [(0, .pointer (some ⟨b0, 0, none⟩)), (4, .pointer (some ⟨b1, 0, none⟩)), (5, .pointer (some ⟨b2, 0, none⟩)), (30, .bool (a1 == 2))]) (by kernel_rfl) ?_
      refine WP.cond (b := (a1 == 2)) (by kernel_rfl) (fun hc => ?_) (fun hc => ?_)
      · replace hc := eq_of_beq hc
        rw [if_pos hc] at h
        have hc18 := hc
        clear hc
        refine WP.seqR ?_
        refine WL.pure 0 3 [0, 4, 5, 35] (L' := [(0, .pointer (some ⟨b0, 0, none⟩)), (4, .pointer (some ⟨b1, 0, none⟩)), (5, .pointer (some ⟨b2, 0, none⟩)), (35, .pointer (some ⟨b0, 0, none⟩))]) (by kernel_rfl) (by decide) ?_
        refine WL.tell (op := .load 22 (.tmp 35)) (ty := 22) (d := some 36) (g := none) (by kernel_rfl) (by kernel_rfl) (by kernel_rfl) (Tells.load_box (i := 2) (b := b0) (o := 0) (agg := false) (by rfl) ag22 (by kernel_rfl) (fun _ => rfl) (Nat.le_of_ble_eq_true rfl) (v := .slice Aa0_f0 a0.f0.length ca0_f0) (by kernel_rfl)) ?_
        rw [Option.bind_eq_some_iff] at h
        obtain ⟨t19, ht20, h⟩ := h
        refine WL.op (op := .call { callee := (.value (.func 76)), args := #[(.tmp 36), (.const (.int .i64 0))], argTypes := #[22, 3] }) (ty := 106) (d := some 37) (g := none) (by kernel_rfl) (by kernel_rfl) (by kernel_rfl) (Does.call (f := 76) (args := [.slice Aa0_f0 a0.f0.length ca0_f0, .int .i64 0]) (by kernel_rfl) (fun W hI => (record_Read_calls HT k a0.f0 0 Aa0_f0 ca0_f0 Ha0_f0 t19 ht20 hI))) ?_
        rintro _ _ _ ⟨rfl, rfl, rfl⟩
        refine WL.pure 5 9 [0, 4, 5, 38, 39, 40] (L' := [(0, .pointer (some ⟨b0, 0, none⟩)), (4, .pointer (some ⟨b1, 0, none⟩)), (5, .pointer (some ⟨b2, 0, none⟩)), (38, .agg #[.int .i64 t19.1.f0, .int .i64 t19.1.f1, .int .i64 t19.1.f2, .int .i64 t19.1.f3, .string t19.1.f4]), (39, .int .i64 t19.2.1), (40, .bool t19.2.2)]) (by kernel_rfl) (by decide) ?_
        refine WL.op (op := .alloc 39) (ty := 0) (d := some 6) (g := none) (by kernel_rfl) (by kernel_rfl) (by kernel_rfl) (Does.new (o := .cells #[.int .i64 0, .int .i64 0, .int .i64 0, .int .i64 0, .string (⟨#[]⟩ : ByteArray)] 39 (0, 0)) (v := fun r => .pointer (some ⟨r, 0, none⟩)) (fun r => by kernel_rfl)) ?_
        rintro _ _ _ ⟨b23, rfl, rfl, rfl⟩
        refine WL.op (op := .store 39 (.tmp 6) (.tmp 38)) (ty := 0) (d := none) (g := none) (by kernel_rfl) (by kernel_rfl) (by kernel_rfl) (Does.store_box (i := 0) (b := b23) (o := 0) (v := .agg #[.int .i64 t19.1.f0, .int .i64 t19.1.f1, .int .i64 t19.1.f2, .int .i64 t19.1.f3, .string t19.1.f4]) (by rfl) sz39 (by kernel_rfl) (by kernel_rfl) (by kernel_rfl) (Free.zero _) (Nat.le_of_ble_eq_true rfl) (cells' := #[.int .i64 t19.1.f0, .int .i64 t19.1.f1, .int .i64 t19.1.f2, .int .i64 t19.1.f3, .string t19.1.f4]) (by kernel_rfl)) ?_
        rintro _ _ _ ⟨rfl, rfl, rfl⟩
        refine WL.restQ 11 [0, 4, 5, 6, 7, 8] (L' := [(0, .pointer (some ⟨b0, 0, none⟩)), (4, .pointer (some ⟨b1, 0, none⟩)), (5, .pointer (some ⟨b2, 0, none⟩)), (6, .pointer (some ⟨b23, 0, none⟩)), (7, .int .i64 t19.2.1), (8, .bool t19.2.2)]) (by kernel_rfl) ?_
        refine WP.seqR ?_
        refine WL.pure 0 1 [0, 4, 5, 6, 7, 8, 41] (L' := [(0, .pointer (some ⟨b0, 0, none⟩)), (4, .pointer (some ⟨b1, 0, none⟩)), (5, .pointer (some ⟨b2, 0, none⟩)), (6, .pointer (some ⟨b23, 0, none⟩)), (7, .int .i64 t19.2.1), (8, .bool t19.2.2), (41, .pointer (some ⟨b0, 0, none⟩))]) (by kernel_rfl) (by decide) ?_
        refine WL.tell (op := .load 39 (.tmp 6)) (ty := 39) (d := some 42) (g := none) (by kernel_rfl) (by kernel_rfl) (by kernel_rfl) (Tells.load_box (i := 0) (b := b23) (o := 0) (agg := true) (by rfl) ag39 (by kernel_rfl) (fun h => by cases h) (Nat.le_of_ble_eq_true rfl) (v := .agg #[.int .i64 t19.1.f0, .int .i64 t19.1.f1, .int .i64 t19.1.f2, .int .i64 t19.1.f3, .string t19.1.f4]) (by kernel_rfl)) ?_
        refine WL.pure 2 5 [0, 4, 5, 7, 41, 42, 44, 45] (L' := [(0, .pointer (some ⟨b0, 0, none⟩)), (4, .pointer (some ⟨b1, 0, none⟩)), (5, .pointer (some ⟨b2, 0, none⟩)), (7, .int .i64 t19.2.1), (41, .pointer (some ⟨b0, 0, none⟩)), (42, .agg #[.int .i64 t19.1.f0, .int .i64 t19.1.f1, .int .i64 t19.1.f2, .int .i64 t19.1.f3, .string t19.1.f4]), (44, .bool (!t19.2.2)), (45, .pointer (some ⟨b2, 3, none⟩))]) (by kernel_rfl) (by decide) ?_
        refine WL.op (op := .store 39 (.tmp 45) (.tmp 42)) (ty := 0) (d := none) (g := none) (by kernel_rfl) (by kernel_rfl) (by kernel_rfl) (Does.store_box (i := 1) (b := b2) (o := 3) (v := .agg #[.int .i64 t19.1.f0, .int .i64 t19.1.f1, .int .i64 t19.1.f2, .int .i64 t19.1.f3, .string t19.1.f4]) (by rfl) sz39 (by kernel_rfl) (by kernel_rfl) (by kernel_rfl) (Free.zero _) (Nat.le_of_ble_eq_true rfl) (cells' := #[.int .i64 a1, .slice none 0 0, .slice none 0 0, .int .i64 t19.1.f0, .int .i64 t19.1.f1, .int .i64 t19.1.f2, .int .i64 t19.1.f3, .string t19.1.f4]) (by kernel_rfl)) ?_
        rintro _ _ _ ⟨rfl, rfl, rfl⟩
        refine WL.pure 6 8 [0, 4, 5, 7, 44, 47] (L' := [(0, .pointer (some ⟨b0, 0, none⟩)), (4, .pointer (some ⟨b1, 0, none⟩)), (5, .pointer (some ⟨b2, 0, none⟩)), (7, .int .i64 t19.2.1), (44, .bool (!t19.2.2)), (47, .pointer (some ⟨b0, 1, none⟩))]) (by kernel_rfl) (by decide) ?_
        refine WL.op (op := .store 4 (.tmp 47) (.tmp 44)) (ty := 0) (d := none) (g := none) (by kernel_rfl) (by kernel_rfl) (by kernel_rfl) (Does.store_box (i := 3) (b := b0) (o := 1) (v := .bool (!t19.2.2)) (by rfl) sz4 (by kernel_rfl) (by kernel_rfl) (by kernel_rfl) (Free.zero _) (Nat.le_of_ble_eq_true rfl) (cells' := #[.slice Aa0_f0 a0.f0.length ca0_f0, .bool (!t19.2.2)]) (by kernel_rfl)) ?_
        rintro _ _ _ ⟨rfl, rfl, rfl⟩
        refine WL.restQ 9 [0, 4, 5, 7] (L' := [(0, .pointer (some ⟨b0, 0, none⟩)), (4, .pointer (some ⟨b1, 0, none⟩)), (5, .pointer (some ⟨b2, 0, none⟩)), (7, .int .i64 t19.2.1)]) (by kernel_rfl) ?_
        refine WP.dropAt 0 ?_
        refine WP.region ?_
        refine WL.pure 0 4 [4, 5, 7, 48, 51] (L' := [(4, .pointer (some ⟨b1, 0, none⟩)), (5, .pointer (some ⟨b2, 0, none⟩)), (7, .int .i64 t19.2.1), (48, .pointer (some ⟨b0, 0, none⟩)), (51, .pointer (some ⟨b0, 0, none⟩))]) (by kernel_rfl) (by decide) ?_
        refine WL.tell (op := .load 22 (.tmp 51)) (ty := 22) (d := some 52) (g := none) (by kernel_rfl) (by kernel_rfl) (by kernel_rfl) (Tells.load_box (i := 2) (b := b0) (o := 0) (agg := false) (by rfl) ag22 (by kernel_rfl) (fun _ => rfl) (Nat.le_of_ble_eq_true rfl) (v := .slice Aa0_f0 a0.f0.length ca0_f0) (by kernel_rfl)) ?_
        refine WL.pure 5 6 [4, 5, 48, 52, 53] (L' := [(4, .pointer (some ⟨b1, 0, none⟩)), (5, .pointer (some ⟨b2, 0, none⟩)), (48, .pointer (some ⟨b0, 0, none⟩)), (52, .slice Aa0_f0 a0.f0.length ca0_f0), (53, .int .i64 t19.2.1)]) (by kernel_rfl) (by decide) ?_
        by_cases hb24 : 0 ≤ t19.2.1 ∧ t19.2.1 ≤ (a0.f0.length : Int) ∧ (a0.f0.length : Int) ≤ (a0.f0.length : Int)
        case neg => rw [if_neg hb24] at h; cases h
        rw [if_pos hb24] at h
        refine WL.tellS (op := .slice 22 (.tmp 52) (some (.tmp 53)) none none) (ty := 22) (d := some 54) (g := none) (by kernel_rfl) (by kernel_rfl) (by kernel_rfl) (Ha0_f0.slice (l := t19.2.1) (h := (a0.f0.length : Int)) (by kernel_rfl) ⟨.i64, by kernel_rfl⟩ rfl hb24.1 hb24.2.1 hb24.2.2 sl22) ?_
        rintro AP25 cP25 HP25
        refine WL.pure 7 9 [4, 5, 54, 56] (L' := [(4, .pointer (some ⟨b1, 0, none⟩)), (5, .pointer (some ⟨b2, 0, none⟩)), (54, .slice AP25 ((a0.f0.take (a0.f0.length : Int).toNat).drop t19.2.1.toNat).length cP25), (56, .pointer (some ⟨b0, 0, none⟩))]) (by kernel_rfl) (by decide) ?_
        refine WL.op (op := .store 22 (.tmp 56) (.tmp 54)) (ty := 0) (d := none) (g := none) (by kernel_rfl) (by kernel_rfl) (by kernel_rfl) (Does.store_box (i := 2) (b := b0) (o := 0) (v := .slice AP25 ((a0.f0.take (a0.f0.length : Int).toNat).drop t19.2.1.toNat).length cP25) (by rfl) sz22 (by kernel_rfl) (by kernel_rfl) (by kernel_rfl) (Free.zero _) (Nat.le_of_ble_eq_true rfl) (cells' := #[.slice AP25 ((a0.f0.take (a0.f0.length : Int).toNat).drop t19.2.1.toNat).length cP25, .bool (!t19.2.2)]) (by kernel_rfl)) ?_
        rintro _ _ _ ⟨rfl, rfl, rfl⟩
        refine WL.rest 10 [4, 5] (L' := [(4, .pointer (some ⟨b1, 0, none⟩)), (5, .pointer (some ⟨b2, 0, none⟩))]) (by kernel_rfl) ?_
        refine QP.blockN ?_
        refine QP.next ?_
        refine WP.pick [4, 5] ?_
        refine WP.seqR ?_
        refine WL.tell (op := .load 41 (.tmp 5)) (ty := 41) (d := some 57) (g := none) (by kernel_rfl) (by kernel_rfl) (by kernel_rfl) (Tells.load_box (i := 0) (b := b2) (o := 0) (agg := true) (by rfl) ag41 (by kernel_rfl) (fun h => by cases h) (Nat.le_of_ble_eq_true rfl) (v := .agg #[.int .i64 a1, .slice none 0 0, .slice none 0 0, .int .i64 t19.1.f0, .int .i64 t19.1.f1, .int .i64 t19.1.f2, .int .i64 t19.1.f3, .string t19.1.f4]) (by kernel_rfl)) ?_
        refine WL.op (op := .store 41 (.tmp 4) (.tmp 57)) (ty := 0) (d := none) (g := none) (by kernel_rfl) (by kernel_rfl) (by kernel_rfl) (Does.store_box (i := 1) (b := b1) (o := 0) (v := .agg #[.int .i64 a1, .slice none 0 0, .slice none 0 0, .int .i64 t19.1.f0, .int .i64 t19.1.f1, .int .i64 t19.1.f2, .int .i64 t19.1.f3, .string t19.1.f4]) (by rfl) sz41 (by kernel_rfl) (by kernel_rfl) (by kernel_rfl) (Free.zero _) (Nat.le_of_ble_eq_true rfl) (cells' := #[.int .i64 a1, .slice none 0 0, .slice none 0 0, .int .i64 t19.1.f0, .int .i64 t19.1.f1, .int .i64 t19.1.f2, .int .i64 t19.1.f3, .string t19.1.f4]) (by kernel_rfl)) ?_
        rintro _ _ _ ⟨rfl, rfl, rfl⟩
        refine WL.restQ 2 [4] (L' := [(4, .pointer (some ⟨b1, 0, none⟩))]) (by kernel_rfl) ?_
        refine WP.dropAt 0 ?_
        refine WP.ret ?_
        obtain rfl := Option.some.inj h
        refine QP.addNil ?_
        refine QP.addNil ?_
        refine QP.front (i := 2) rfl ?_
        refine QP.front (i := 3) rfl ?_
        refine QP.front (i := 2) rfl ?_
        refine QP.front (i := 3) rfl ?_
        exact QP.returnedM (rs := [.cell 4 41]) (by kernel_rfl) (ResAll.cons (Res1.box (p := 4) (i := 3) (o := 0) (agg := true) (by rfl) ag41 (by kernel_rfl) (fun h => by cases h) (Nat.le_of_ble_eq_true rfl) (v := .agg #[.int .i64 a1, .slice none ([] : List Int).length 0, .slice none ([] : List Int).length 0, .int .i64 t19.1.f0, .int .i64 t19.1.f1, .int .i64 t19.1.f2, .int .i64 t19.1.f3, .string t19.1.f4]) (by kernel_rfl)) ResAll.nil) (by kernel_rfl) (fun W hI => ⟨_, _, _, rfl, ⟨none, 0, [], none, 0, [], AP25, cP25, rfl, (Ow.nil (kInt .i64) _), (Ow.nil (kInt .i64) _), HP25, rfl, rfl⟩, (hI.less 3 rfl)⟩)
      · replace hc := ne_of_beq_false hc
        rw [if_neg hc] at h
        have hc18 := hc
        clear hc
        refine WP.skip ?_
        refine QP.blockN ?_
        refine QP.next ?_
        refine WP.pick [4, 5] ?_
        refine WP.seqR ?_
        refine WL.tell (op := .load 41 (.tmp 5)) (ty := 41) (d := some 57) (g := none) (by kernel_rfl) (by kernel_rfl) (by kernel_rfl) (Tells.load_box (i := 0) (b := b2) (o := 0) (agg := true) (by rfl) ag41 (by kernel_rfl) (fun h => by cases h) (Nat.le_of_ble_eq_true rfl) (v := .agg #[.int .i64 a1, .slice none 0 0, .slice none 0 0, .int .i64 0, .int .i64 0, .int .i64 0, .int .i64 0, .string (⟨#[]⟩ : ByteArray)]) (by kernel_rfl)) ?_
        refine WL.op (op := .store 41 (.tmp 4) (.tmp 57)) (ty := 0) (d := none) (g := none) (by kernel_rfl) (by kernel_rfl) (by kernel_rfl) (Does.store_box (i := 1) (b := b1) (o := 0) (v := .agg #[.int .i64 a1, .slice none 0 0, .slice none 0 0, .int .i64 0, .int .i64 0, .int .i64 0, .int .i64 0, .string (⟨#[]⟩ : ByteArray)]) (by rfl) sz41 (by kernel_rfl) (by kernel_rfl) (by kernel_rfl) (Free.zero _) (Nat.le_of_ble_eq_true rfl) (cells' := #[.int .i64 a1, .slice none 0 0, .slice none 0 0, .int .i64 0, .int .i64 0, .int .i64 0, .int .i64 0, .string (⟨#[]⟩ : ByteArray)]) (by kernel_rfl)) ?_
        rintro _ _ _ ⟨rfl, rfl, rfl⟩
        refine WL.restQ 2 [4] (L' := [(4, .pointer (some ⟨b1, 0, none⟩))]) (by kernel_rfl) ?_
        refine WP.dropAt 0 ?_
        refine WP.ret ?_
        obtain rfl := Option.some.inj h
        refine QP.addNil ?_
        refine QP.addNil ?_
        refine QP.front (i := 2) rfl ?_
        refine QP.front (i := 3) rfl ?_
        refine QP.front (i := 2) rfl ?_
        refine QP.front (i := 3) rfl ?_
        exact QP.returnedM (rs := [.cell 4 41]) (by kernel_rfl) (ResAll.cons (Res1.box (p := 4) (i := 3) (o := 0) (agg := true) (by rfl) ag41 (by kernel_rfl) (fun h => by cases h) (Nat.le_of_ble_eq_true rfl) (v := .agg #[.int .i64 a1, .slice none ([] : List Int).length 0, .slice none ([] : List Int).length 0, .int .i64 0, .int .i64 0, .int .i64 0, .int .i64 0, .string (⟨#[]⟩ : ByteArray)]) (by kernel_rfl)) ResAll.nil) (by kernel_rfl) (fun W hI => ⟨_, _, _, rfl, ⟨none, 0, [], none, 0, [], Aa0_f0, ca0_f0, rfl, (Ow.nil (kInt .i64) _), (Ow.nil (kInt .i64) _), Ha0_f0, rfl, rfl⟩, (hI.less 3 rfl)⟩)

/-! ### grapevine/segment.Read: function 12 -/
def segment_Read_l0 (l0 : List Int) (a1 : Int) : Nat → (List T41) → Int → Option ((List T41) × Int)
  | 0, _, _ => none
  | k + 1, y1, y2 => ((frame_Next k l0 y2).bind fun t5 => ((if (!t5.2.2.2) = true then some true else some (!((t5.1 == 1) == (y2 == 0)))).bind fun s9 => (if s9 = true then some (y1, y2) else ((segment_body_entry k (⟨t5.2.1, false⟩ : T73) t5.1).bind fun t21 => ((if t21.2.f1 = true then some true else (if (t21.2.f0.length : Int) > 0 then some true else ((segment_May k t21.1 a1).bind fun t30 => some (!t30)))).bind fun s26 => (if s26 = true then some (y1, y2) else (if y1.length + ([t21.1] : List T41).length ≤ 1073741824 then segment_Read_l0 l0 a1 k (y1 ++ ([t21.1] : List T41)) t5.2.2.1 else none)))))))
def segment_Read (k : Nat) (l0 : List Int) (a1 : Int) : Option ((List T41) × Int) := segment_Read_l0 l0 a1 k ([] : List T41) 0
set_option maxHeartbeats 4000000 in
theorem segment_Read_calls {B : World} {G : GMap} {Γ : List Chunk} {W : World} (HT : Tabs B G) (k : Nat) (l0 : List Int) (a1 : Int) (Al0 : Option Addr) (cl0 : Nat) (Hl0 : Rd (kInt .u8) G Al0 cl0 l0) (r : (List T41) × Int) (h : segment_Read k l0 a1 = some r) (hI : Inv B G (Γ) W) :
    Calls Tryd.prog 12 [.slice Al0 l0.length cl0, .int .i64 a1].toArray W (Ret B (fun v G' Γ' => ∃ (AR0 : Option Addr), ∃ (cR0 : Nat), ∃ (CR0 : Chunk), v = .tuple #[.slice AR0 r.1.length cR0, .int .i64 r.2] ∧ Dp d41 G' AR0 cR0 r.1 CR0 ∧ G = G' ∧ CR0 :: Γ = Γ')) := by
  refine calls_WP (Γ := Γ) (G := G) (B := B) Tryd.func12 rfl (by kernel_rfl) ?_ hI
  clear hI
  unfold segment_Read at h
  refine WP.seqP [0, 1] (L' := [(0, .slice Al0 l0.length cl0), (1, .int .i64 a1)]) (by kernel_rfl) ?_
  refine WP.seqP [0, 1, 6] (L' := [(0, .slice Al0 l0.length cl0), (1, .int .i64 a1), (6, .slice none 0 0)]) (by kernel_rfl) ?_
  refine WP.seqP [0, 1, 6, 7] (L' := [(0, .slice Al0 l0.length cl0), (1, .int .i64 a1), (6, .slice none 0 0), (7, .int .i64 0)]) (by kernel_rfl) ?_
  refine WP.block ?_
  refine WP.addNil ?_
  refine WP.pick [0, 1, 6, 7] ?_
  refine WP.loopF (fun kn3 L' G' Γ' => ∃ (y1 : List T41), ∃ (y2 : Int), segment_Read_l0 l0 a1 kn3 y1 y2 = some r ∧ ∃ (Ay1 : Option Addr), ∃ (cy1 : Nat), ∃ (Cy1 : Chunk), L' = [(0, .slice Al0 l0.length cl0), (1, .int .i64 a1), (6, .slice Ay1 y1.length cy1), (7, .int .i64 y2)] ∧ G = G' ∧ Cy1 :: Γ = Γ' ∧ Dp d41 G Ay1 cy1 y1 Cy1) ?_ k ⟨([] : List T41), 0, h, none, 0, [], rfl, rfl, rfl, (Dp.nil d41 _)⟩
  clear h
  rintro kn4 _ _ _ ⟨y1, y2, h, Ay1, cy1, Cy1, rfl, rfl, rfl, Hy1⟩
  cases kn4 with
  | zero => exact absurd h (by simp [segment_Read_l0])
  | succ kn4 =>
    simp only [segment_Read_l0] at h
    refine WP.block ?_
    refine WP.seqR ?_
    refine WL.pure 0 2 [0, 1, 6, 7, 15, 16] (L' := [(0, .slice Al0 l0.length cl0), (1, .int .i64 a1), (6, .slice Ay1 y1.length cy1), (7, .int .i64 y2), (15, .slice Al0 l0.length cl0), (16, .int .i64 y2)]) (by kernel_rfl) (by decide) ?_
    rw [Option.bind_eq_some_iff] at h
    obtain ⟨t5, ht6, h⟩ := h
    refine WL.op (op := .call { callee := (.value (.func 38)), args := #[(.tmp 15), (.tmp 16)], argTypes := #[22, 3] }) (ty := 47) (d := some 17) (g := none) (by kernel_rfl) (by kernel_rfl) (by kernel_rfl) (Does.call (f := 38) (args := [.slice Al0 l0.length cl0, .int .i64 y2]) (by kernel_rfl) (fun W hI => (frame_Next_calls kn4 l0 y2 Al0 cl0 Hl0 t5 ht6 hI))) ?_
    rintro _ _ _ ⟨AR71, cR71, CR71, rfl, HR71, rfl, rfl⟩
    refine WL.restQ 3 [0, 1, 6, 7, 8, 9, 10, 11] (L' := [(0, .slice Al0 l0.length cl0), (1, .int .i64 a1), (6, .slice Ay1 y1.length cy1), (7, .int .i64 y2), (8, .int .i64 t5.1), (9, .slice AR71 t5.2.1.length cR71), (10, .int .i64 t5.2.2.1), (11, .bool t5.2.2.2)]) (by kernel_rfl) ?_
    refine WP.seq ?_
    rw [Option.bind_eq_some_iff] at h
    obtain ⟨os9, h, hk10⟩ := h
    refine WP.cut (fun L' G' Γ' => ∃ s9 : Bool, s9 = os9 ∧ L' = [(0, .slice Al0 l0.length cl0), (1, .int .i64 a1), (6, .slice Ay1 y1.length cy1), (7, .int .i64 y2), (8, .int .i64 t5.1), (9, .slice AR71 t5.2.1.length cR71), (10, .int .i64 t5.2.2.1), (30, .bool s9)] ∧ G = G' ∧ CR71 :: Cy1 :: Γ = Γ') ?_ ?_
    · clear hk10
      refine WP.region ?_
      refine WL.pure 0 3 [0, 1, 6, 7, 8, 9, 10, 24] (L' := [(0, .slice Al0 l0.length cl0), (1, .int .i64 a1), (6, .slice Ay1 y1.length cy1), (7, .int .i64 y2), (8, .int .i64 t5.1), (9, .slice AR71 t5.2.1.length cR71), (10, .int .i64 t5.2.2.1), (24, .bool (!t5.2.2.2))]) (by kernel_rfl) (by decide) ?_
      refine WL.split 24 (b := (!t5.2.2.2)) (by kernel_rfl) (fun hc => ?_) (fun hc => ?_)
      · replace hc := hc
        rw [if_pos hc] at h
        have hc11 := hc
        clear hc
        refine WL.rest 3 [0, 1, 6, 7, 8, 9, 10, 30] (L' := [(0, .slice Al0 l0.length cl0), (1, .int .i64 a1), (6, .slice Ay1 y1.length cy1), (7, .int .i64 y2), (8, .int .i64 t5.1), (9, .slice AR71 t5.2.1.length cR71), (10, .int .i64 t5.2.2.1), (30, .bool true)]) (by kernel_rfl) ?_
        refine QP.pick [0, 1, 6, 7, 8, 9, 10, 30] ?_
        exact QP.meet ⟨_, Option.some.inj h, rfl, rfl, rfl⟩
      · replace hc := (Bool.eq_false_iff.1 hc)
        rw [if_neg hc] at h
        have hc11 := hc
        clear hc
        refine WL.rest 3 [0, 1, 6, 7, 8, 9, 10, 30] (L' := [(0, .slice Al0 l0.length cl0), (1, .int .i64 a1), (6, .slice Ay1 y1.length cy1), (7, .int .i64 y2), (8, .int .i64 t5.1), (9, .slice AR71 t5.2.1.length cR71), (10, .int .i64 t5.2.2.1), (30, .bool (!((t5.1 == 1) == (y2 == 0))))]) (by kernel_rfl) ?_
        refine QP.pick [0, 1, 6, 7, 8, 9, 10, 30] ?_
        exact QP.meet ⟨_, Option.some.inj h, rfl, rfl, rfl⟩
    · rintro _ _ _ ⟨s9, rfl, rfl, rfl, rfl⟩
      clear h
      replace h := hk10
      refine WP.cond (b := s9) (by kernel_rfl) (fun hc => ?_) (fun hc => ?_)
      · replace hc := hc
        rw [if_pos hc] at h
        have hc12 := hc
        clear hc
        refine WP.seqP [4, 5] (L' := [(4, .slice Ay1 y1.length cy1), (5, .int .i64 y2)]) (by kernel_rfl) ?_
        refine WP.dropAt 0 ?_
        refine WP.ret ?_
        refine QP.thenR ?_
        refine QP.blockR ?_
        refine QP.thenR ?_
        refine QP.blockR ?_
        obtain rfl := Option.some.inj h
        exact QP.returned [4, 5] [.slice Ay1 y1.length cy1, .int .i64 y2] _ (by kernel_rfl) (by kernel_rfl) (by kernel_rfl) (fun W hI => ⟨_, _, _, rfl, ⟨Ay1, cy1, Cy1, rfl, Hy1, rfl, rfl⟩, hI⟩)
      · replace hc := (Bool.eq_false_iff.1 hc)
        rw [if_neg hc] at h
        have hc12 := hc
        clear hc
        refine WP.skip ?_
        refine QP.next ?_
        refine WP.pick [0, 1, 6, 7, 8, 9, 10] ?_
        refine WP.seqR ?_
        refine WL.pure 0 2 [0, 1, 6, 7, 8, 10, 34] (L' := [(0, .slice Al0 l0.length cl0), (1, .int .i64 a1), (6, .slice Ay1 y1.length cy1), (7, .int .i64 y2), (8, .int .i64 t5.1), (10, .int .i64 t5.2.2.1), (34, .agg #[.slice AR71 t5.2.1.length cR71, .bool false])]) (by kernel_rfl) (by decide) ?_
        refine WL.op (op := .box 73 (.tmp 34)) (ty := 71) (d := some 35) (g := none) (by kernel_rfl) (by kernel_rfl) (by kernel_rfl) (Does.new (o := .cells #[.slice AR71 t5.2.1.length cR71, .bool false] 73 (0, 0)) (v := fun r => .pointer (some ⟨r, 0, none⟩)) (fun r => by kernel_rfl)) ?_
        rintro _ _ _ ⟨b13, rfl, rfl, rfl⟩
        refine WL.restQ 3 [0, 1, 6, 7, 8, 10, 12] (L' := [(0, .slice Al0 l0.length cl0), (1, .int .i64 a1), (6, .slice Ay1 y1.length cy1), (7, .int .i64 y2), (8, .int .i64 t5.1), (10, .int .i64 t5.2.2.1), (12, .pointer (some ⟨b13, 0, none⟩))]) (by kernel_rfl) ?_
        refine WP.seqR ?_
        refine WL.pure 0 2 [0, 1, 6, 7, 10, 12, 36, 37] (L' := [(0, .slice Al0 l0.length cl0), (1, .int .i64 a1), (6, .slice Ay1 y1.length cy1), (7, .int .i64 y2), (10, .int .i64 t5.2.2.1), (12, .pointer (some ⟨b13, 0, none⟩)), (36, .pointer (some ⟨b13, 0, none⟩)), (37, .int .i64 t5.1)]) (by kernel_rfl) (by decide) ?_
        refine WL.freezeN (i := 1) rfl (fun G14 hG15 hle16 nd17 => ?_)
        have Hz18 := HR71.rdN (by rw [← hG15]; exact hle16) nd17
        rw [← hG15] at Hz18
        have Hm19 := Hl0.mono hle16
        have Hm20 := Hy1.mono hle16
        rw [Option.bind_eq_some_iff] at h
        obtain ⟨t21, ht22, h⟩ := h
        refine WL.op (op := .call { callee := (.value (.func 39)), args := #[(.tmp 36), (.tmp 37)], argTypes := #[71, 3] }) (ty := 41) (d := some 38) (g := none) (by kernel_rfl) (by kernel_rfl) (by kernel_rfl) (Does.call (f := 39) (args := [.pointer (some ⟨b13, 0, none⟩), .int .i64 t5.1]) (by kernel_rfl) (fun W hI => (segment_body_entry_calls (HT.mono hle16) kn4 (⟨t5.2.1, false⟩ : T73) t5.1 b13 AR71 cR71 Hz18 t21 ht22 hI))) ?_
        rintro _ _ _ ⟨AR23_0, cR23_0, CR23_0, AR23_1, cR23_1, CR23_1, AR23p0, cR23p0, rfl, HR23_0, HR23_1, HR23p0, rfl, rfl⟩
        refine WL.op (op := .alloc 41) (ty := 0) (d := some 13) (g := none) (by kernel_rfl) (by kernel_rfl) (by kernel_rfl) (Does.new (o := .cells #[.int .i64 0, .slice none 0 0, .slice none 0 0, .int .i64 0, .int .i64 0, .int .i64 0, .int .i64 0, .string (⟨#[]⟩ : ByteArray)] 41 (0, 0)) (v := fun r => .pointer (some ⟨r, 0, none⟩)) (fun r => by kernel_rfl)) ?_
        rintro _ _ _ ⟨b25, rfl, rfl, rfl⟩
        refine WL.op (op := .store 41 (.tmp 13) (.tmp 38)) (ty := 0) (d := none) (g := none) (by kernel_rfl) (by kernel_rfl) (by kernel_rfl) (Does.store_box (i := 0) (b := b25) (o := 0) (v := .agg #[.int .i64 t21.1.f0, .slice AR23_0 t21.1.f1.length cR23_0, .slice AR23_1 t21.1.f2.length cR23_1, .int .i64 t21.1.f3, .int .i64 t21.1.f4, .int .i64 t21.1.f5, .int .i64 t21.1.f6, .string t21.1.f7]) (by rfl) sz41 (by kernel_rfl) (by kernel_rfl) (by kernel_rfl) (Free.zero _) (Nat.le_of_ble_eq_true rfl) (cells' := #[.int .i64 t21.1.f0, .slice AR23_0 t21.1.f1.length cR23_0, .slice AR23_1 t21.1.f2.length cR23_1, .int .i64 t21.1.f3, .int .i64 t21.1.f4, .int .i64 t21.1.f5, .int .i64 t21.1.f6, .string t21.1.f7]) (by kernel_rfl)) ?_
        rintro _ _ _ ⟨rfl, rfl, rfl⟩
        refine WL.restQ 5 [0, 1, 6, 7, 10, 12, 13] (L' := [(0, .slice Al0 l0.length cl0), (1, .int .i64 a1), (6, .slice Ay1 y1.length cy1), (7, .int .i64 y2), (10, .int .i64 t5.2.2.1), (12, .pointer (some ⟨b13, 0, none⟩)), (13, .pointer (some ⟨b25, 0, none⟩))]) (by kernel_rfl) ?_
        refine WP.dropAt 4 ?_
        refine WP.seq ?_
        rw [Option.bind_eq_some_iff] at h
        obtain ⟨os26, h, hk27⟩ := h
        refine WP.cut (fun L' G' Γ' => ∃ s26 : Bool, s26 = os26 ∧ L' = [(0, .slice Al0 l0.length cl0), (1, .int .i64 a1), (6, .slice Ay1 y1.length cy1), (7, .int .i64 y2), (10, .int .i64 t5.2.2.1), (13, .pointer (some ⟨b25, 0, none⟩)), (56, .bool s26)] ∧ G14 = G' ∧ [(b25, .cells #[.int .i64 t21.1.f0, .slice AR23_0 t21.1.f1.length cR23_0, .slice AR23_1 t21.1.f2.length cR23_1, .int .i64 t21.1.f3, .int .i64 t21.1.f4, .int .i64 t21.1.f5, .int .i64 t21.1.f6, .string t21.1.f7] 41 (0, 0))] :: CR23_0 :: CR23_1 :: Cy1 :: Γ = Γ') ?_ ?_
        · clear hk27
          refine WP.region ?_
          refine WL.pure 0 3 [0, 1, 6, 7, 10, 12, 13, 41] (L' := [(0, .slice Al0 l0.length cl0), (1, .int .i64 a1), (6, .slice Ay1 y1.length cy1), (7, .int .i64 y2), (10, .int .i64 t5.2.2.1), (12, .pointer (some ⟨b13, 0, none⟩)), (13, .pointer (some ⟨b25, 0, none⟩)), (41, .pointer (some ⟨b13, 1, none⟩))]) (by kernel_rfl) (by decide) ?_
          refine WL.tell (op := .load 4 (.tmp 41)) (ty := 4) (d := some 42) (g := none) (by kernel_rfl) (by kernel_rfl) (by kernel_rfl) (Tells.load_box (i := 3) (b := b13) (o := 1) (agg := false) (by rfl) ag4 (by kernel_rfl) (fun _ => rfl) (Nat.le_of_ble_eq_true rfl) (v := .bool t21.2.f1) (by kernel_rfl)) ?_
          refine WL.pure 4 5 [0, 1, 6, 7, 10, 12, 13, 43] (L' := [(0, .slice Al0 l0.length cl0), (1, .int .i64 a1), (6, .slice Ay1 y1.length cy1), (7, .int .i64 y2), (10, .int .i64 t5.2.2.1), (12, .pointer (some ⟨b13, 0, none⟩)), (13, .pointer (some ⟨b25, 0, none⟩)), (43, .bool t21.2.f1)]) (by kernel_rfl) (by decide) ?_
          refine WL.split 43 (b := t21.2.f1) (by kernel_rfl) (fun hc => ?_) (fun hc => ?_)
          · replace hc := hc
            rw [if_pos hc] at h
            have hc28 := hc
            clear hc
            refine WL.rest 5 [0, 1, 6, 7, 10, 13, 56] (L' := [(0, .slice Al0 l0.length cl0), (1, .int .i64 a1), (6, .slice Ay1 y1.length cy1), (7, .int .i64 y2), (10, .int .i64 t5.2.2.1), (13, .pointer (some ⟨b25, 0, none⟩)), (56, .bool true)]) (by kernel_rfl) ?_
            refine QP.dropAt 3 ?_
            refine QP.pick [0, 1, 6, 7, 10, 13, 56] ?_
            exact QP.meet ⟨_, Option.some.inj h, rfl, rfl, rfl⟩
          · replace hc := (Bool.eq_false_iff.1 hc)
            rw [if_neg hc] at h
            have hc28 := hc
            clear hc
            refine WL.pure 5 8 [0, 1, 6, 7, 10, 13, 43, 46] (L' := [(0, .slice Al0 l0.length cl0), (1, .int .i64 a1), (6, .slice Ay1 y1.length cy1), (7, .int .i64 y2), (10, .int .i64 t5.2.2.1), (13, .pointer (some ⟨b25, 0, none⟩)), (43, .bool false), (46, .pointer (some ⟨b13, 0, none⟩))]) (by kernel_rfl) (by decide) ?_
            refine WL.tell (op := .load 22 (.tmp 46)) (ty := 22) (d := some 47) (g := some (4, false)) (by kernel_rfl) (by kernel_rfl) (by kernel_rfl) (Tells.load_box (i := 3) (b := b13) (o := 0) (agg := false) (by rfl) ag22 (by kernel_rfl) (fun _ => rfl) (Nat.le_of_ble_eq_true rfl) (v := .slice AR23p0 t21.2.f0.length cR23p0) (by kernel_rfl)) ?_
            refine WL.pure 9 13 [0, 1, 6, 7, 10, 13, 51] (L' := [(0, .slice Al0 l0.length cl0), (1, .int .i64 a1), (6, .slice Ay1 y1.length cy1), (7, .int .i64 y2), (10, .int .i64 t5.2.2.1), (13, .pointer (some ⟨b25, 0, none⟩)), (51, .bool (decide ((t21.2.f0.length : Int) > 0)))]) (by kernel_rfl) (by decide) ?_
            refine WL.split 51 (b := decide ((t21.2.f0.length : Int) > 0)) (by kernel_rfl) (fun hc => ?_) (fun hc => ?_)
            · replace hc := of_decide_eq_true hc
              rw [if_pos hc] at h
              have hc29 := hc
              clear hc
              refine WL.rest 13 [0, 1, 6, 7, 10, 13, 56] (L' := [(0, .slice Al0 l0.length cl0), (1, .int .i64 a1), (6, .slice Ay1 y1.length cy1), (7, .int .i64 y2), (10, .int .i64 t5.2.2.1), (13, .pointer (some ⟨b25, 0, none⟩)), (56, .bool true)]) (by kernel_rfl) ?_
              refine QP.dropAt 3 ?_
              refine QP.pick [0, 1, 6, 7, 10, 13, 56] ?_
              exact QP.meet ⟨_, Option.some.inj h, rfl, rfl, rfl⟩
            · replace hc := of_decide_eq_false hc
              rw [if_neg hc] at h
              have hc29 := hc
              clear hc
              refine WL.tell (op := .load 41 (.tmp 13)) (ty := 41) (d := some 52) (g := some (12, false)) (by kernel_rfl) (by kernel_rfl) (by kernel_rfl) (Tells.load_box (i := 0) (b := b25) (o := 0) (agg := true) (by rfl) ag41 (by kernel_rfl) (fun h => by cases h) (Nat.le_of_ble_eq_true rfl) (v := .agg #[.int .i64 t21.1.f0, .slice AR23_0 t21.1.f1.length cR23_0, .slice AR23_1 t21.1.f2.length cR23_1, .int .i64 t21.1.f3, .int .i64 t21.1.f4, .int .i64 t21.1.f5, .int .i64 t21.1.f6, .string t21.1.f7]) (by kernel_rfl)) ?_
              refine WL.pure 14 15 [0, 1, 6, 7, 10, 13, 51, 52, 53] (L' := [(0, .slice Al0 l0.length cl0), (1, .int .i64 a1), (6, .slice Ay1 y1.length cy1), (7, .int .i64 y2), (10, .int .i64 t5.2.2.1), (13, .pointer (some ⟨b25, 0, none⟩)), (51, .bool false), (52, .agg #[.int .i64 t21.1.f0, .slice AR23_0 t21.1.f1.length cR23_0, .slice AR23_1 t21.1.f2.length cR23_1, .int .i64 t21.1.f3, .int .i64 t21.1.f4, .int .i64 t21.1.f5, .int .i64 t21.1.f6, .string t21.1.f7]), (53, .int .i64 a1)]) (by kernel_rfl) (by decide) ?_
              rw [Option.bind_eq_some_iff] at h
              obtain ⟨t30, ht31, h⟩ := h
              refine WL.op (op := .call { callee := (.value (.func 18)), args := #[(.tmp 52), (.tmp 53)], argTypes := #[41, 3] }) (ty := 4) (d := some 54) (g := some (12, false)) (by kernel_rfl) (by kernel_rfl) (by kernel_rfl) (Does.call (Φ := fun v' G' Γ' => v' = .bool t30 ∧ G14 = G' ∧ [(b25, .cells #[.int .i64 t21.1.f0, .slice AR23_0 t21.1.f1.length cR23_0, .slice AR23_1 t21.1.f2.length cR23_1, .int .i64 t21.1.f3, .int .i64 t21.1.f4, .int .i64 t21.1.f5, .int .i64 t21.1.f6, .string t21.1.f7] 41 (0, 0))] :: CR23_0 :: CR23_1 :: [(b13, .cells #[.slice AR23p0 t21.2.f0.length cR23p0, .bool t21.2.f1] 73 (0, 0))] :: Cy1 :: Γ = Γ') (f := 18) (args := [.agg #[.int .i64 t21.1.f0, .slice AR23_0 t21.1.f1.length cR23_0, .slice AR23_1 t21.1.f2.length cR23_1, .int .i64 t21.1.f3, .int .i64 t21.1.f4, .int .i64 t21.1.f5, .int .i64 t21.1.f6, .string t21.1.f7], .int .i64 a1]) (by kernel_rfl) (fun W hI => (Calls.lendN (Φ := fun v' N => v' = .bool t30 ∧ N = []) (H := []) (i := 1) rfl hI (fun _ e l34 nl34 hI => by subst e; exact Calls.lendN (Φ := fun v' N => v' = .bool t30 ∧ N = []) (H := []) (i := 2) rfl hI (fun _ e l35 nl35 hI => by subst e; exact (((segment_May_calls (((HT.mono hle16).mono l34).mono l35) kn4 t21.1 a1 AR23_0 cR23_0 ((HR23_0.rdN l34 nl34).mono l35) AR23_1 cR23_1 ((HR23_1.mono l34).rdN l35 nl35) t30 ht31 hI)).mono fun _ _ hr => by obtain ⟨_, _, _, rfl, hd, hI⟩ := hr; obtain ⟨rfl, rfl, rfl⟩ := hd; exact ⟨_, _, _, rfl, ⟨[], ⟨rfl, rfl⟩, rfl, rfl⟩, hI⟩)))).mono fun _ _ hr => by obtain ⟨_, _, _, rfl, ⟨_, hd, rfl, rfl⟩, hI⟩ := hr; obtain ⟨rfl, rfl⟩ := hd; exact ⟨_, _, _, rfl, ⟨rfl, rfl, rfl⟩, hI⟩)) ?_
              rintro _ _ _ ⟨rfl, rfl, rfl⟩
              refine WL.rest 16 [0, 1, 6, 7, 10, 13, 56] (L' := [(0, .slice Al0 l0.length cl0), (1, .int .i64 a1), (6, .slice Ay1 y1.length cy1), (7, .int .i64 y2), (10, .int .i64 t5.2.2.1), (13, .pointer (some ⟨b25, 0, none⟩)), (56, .bool (!t30))]) (by kernel_rfl) ?_
              refine QP.dropAt 3 ?_
              refine QP.pick [0, 1, 6, 7, 10, 13, 56] ?_
              exact QP.meet ⟨_, Option.some.inj h, rfl, rfl, rfl⟩
        · rintro _ _ _ ⟨s26, rfl, rfl, rfl, rfl⟩
          clear h
          replace h := hk27
          refine WP.cond (b := s26) (by kernel_rfl) (fun hc => ?_) (fun hc => ?_)
          · replace hc := hc
            rw [if_pos hc] at h
            have hc36 := hc
            clear hc
            refine WP.seqP [4, 5] (L' := [(4, .slice Ay1 y1.length cy1), (5, .int .i64 y2)]) (by kernel_rfl) ?_
            refine WP.dropAt 2 ?_
            refine WP.dropAt 1 ?_
            refine WP.dropAt 0 ?_
            refine WP.ret ?_
            refine QP.thenR ?_
            refine QP.blockR ?_
            refine QP.thenR ?_
            refine QP.blockR ?_
            obtain rfl := Option.some.inj h
            refine QP.lower hle16 ?_
            exact QP.returned [4, 5] [.slice Ay1 y1.length cy1, .int .i64 y2] _ (by kernel_rfl) (by kernel_rfl) (by kernel_rfl) (fun W hI => ⟨_, _, _, rfl, ⟨Ay1, cy1, Cy1, rfl, (Hm20.flat (kInt_flat .i64)), rfl, rfl⟩, hI⟩)
          · replace hc := (Bool.eq_false_iff.1 hc)
            rw [if_neg hc] at h
            have hc36 := hc
            clear hc
            refine WP.skip ?_
            refine QP.next ?_
            refine WP.pick [0, 1, 6, 10, 13] ?_
            refine WP.region ?_
            refine WL.pure 0 1 [0, 1, 6, 10, 13, 59] (L' := [(0, .slice Al0 l0.length cl0), (1, .int .i64 a1), (6, .slice Ay1 y1.length cy1), (10, .int .i64 t5.2.2.1), (13, .pointer (some ⟨b25, 0, none⟩)), (59, .slice Ay1 y1.length cy1)]) (by kernel_rfl) (by decide) ?_
            refine WL.tell (op := .load 41 (.tmp 13)) (ty := 41) (d := some 60) (g := none) (by kernel_rfl) (by kernel_rfl) (by kernel_rfl) (Tells.load_box (i := 0) (b := b25) (o := 0) (agg := true) (by rfl) ag41 (by kernel_rfl) (fun h => by cases h) (Nat.le_of_ble_eq_true rfl) (v := .agg #[.int .i64 t21.1.f0, .slice AR23_0 t21.1.f1.length cR23_0, .slice AR23_1 t21.1.f2.length cR23_1, .int .i64 t21.1.f3, .int .i64 t21.1.f4, .int .i64 t21.1.f5, .int .i64 t21.1.f6, .string t21.1.f7]) (by kernel_rfl)) ?_
            refine WL.op (op := .buildSlice 25 1 #[(0, (.tmp 60))]) (ty := 25) (d := some 61) (g := none) (by kernel_rfl) (by kernel_rfl) (by kernel_rfl) (Does.new (o := .cells #[.int .i64 t21.1.f0, .slice AR23_0 t21.1.f1.length cR23_0, .slice AR23_1 t21.1.f2.length cR23_1, .int .i64 t21.1.f3, .int .i64 t21.1.f4, .int .i64 t21.1.f5, .int .i64 t21.1.f6, .string t21.1.f7] 41 (0, 0)) (v := fun r => .slice (some ⟨r, 0, none⟩) 1 1) (fun r => by kernel_rfl)) ?_
            rintro _ _ _ ⟨b37, rfl, rfl, rfl⟩
            refine WL.front (i := 3) rfl ?_
            refine WL.front (i := 3) rfl ?_
            refine WL.front (i := 4) rfl ?_
            by_cases hb40 : y1.length + ([t21.1] : List T41).length ≤ 1073741824
            case neg => rw [if_neg hb40] at h; cases h
            rw [if_pos hb40] at h
            refine WL.op (op := .call { callee := (.builtin .append), args := #[(.tmp 59), (.tmp 61)], argTypes := #[25, 25] }) (ty := 25) (d := some 62) (g := none) (by kernel_rfl) (by kernel_rfl) (by kernel_rfl) (Dp.append1L Hm20 [CR23_0, CR23_1] (e := t21.1) (cs := [.int .i64 t21.1.f0, .slice AR23_0 t21.1.f1.length cR23_0, .slice AR23_1 t21.1.f2.length cR23_1, .int .i64 t21.1.f3, .int .i64 t21.1.f4, .int .i64 t21.1.f5, .int .i64 t21.1.f6, .string t21.1.f7]) (show d41.rel t21.1 [.int .i64 t21.1.f0, .slice AR23_0 t21.1.f1.length cR23_0, .slice AR23_1 t21.1.f2.length cR23_1, .int .i64 t21.1.f3, .int .i64 t21.1.f4, .int .i64 t21.1.f5, .int .i64 t21.1.f6, .string t21.1.f7] (List.flatten [CR23_0, CR23_1]) from by rw [show List.flatten [CR23_0, CR23_1] = (([] : Chunk) ++ (CR23_0 ++ (CR23_1 ++ (([] : Chunk) ++ (([] : Chunk) ++ (([] : Chunk) ++ (([] : Chunk) ++ ([] : Chunk)))))))) by simp]; exact ⟨[.int .i64 t21.1.f0], _, ([] : Chunk), (CR23_0 ++ (CR23_1 ++ (([] : Chunk) ++ (([] : Chunk) ++ (([] : Chunk) ++ (([] : Chunk) ++ ([] : Chunk))))))), rfl, rfl, ⟨rfl, rfl⟩, ⟨[.slice AR23_0 t21.1.f1.length cR23_0], _, CR23_0, (CR23_1 ++ (([] : Chunk) ++ (([] : Chunk) ++ (([] : Chunk) ++ (([] : Chunk) ++ ([] : Chunk)))))), rfl, rfl, ⟨AR23_0, cR23_0, rfl, (HR23_0.flat (kInt_flat _))⟩, ⟨[.slice AR23_1 t21.1.f2.length cR23_1], _, CR23_1, (([] : Chunk) ++ (([] : Chunk) ++ (([] : Chunk) ++ (([] : Chunk) ++ ([] : Chunk))))), rfl, rfl, ⟨AR23_1, cR23_1, rfl, (HR23_1.flat (kInt_flat _))⟩, ⟨[.int .i64 t21.1.f3], _, ([] : Chunk), (([] : Chunk) ++ (([] : Chunk) ++ (([] : Chunk) ++ ([] : Chunk)))), rfl, rfl, ⟨rfl, rfl⟩, ⟨[.int .i64 t21.1.f4], _, ([] : Chunk), (([] : Chunk) ++ (([] : Chunk) ++ ([] : Chunk))), rfl, rfl, ⟨rfl, rfl⟩, ⟨[.int .i64 t21.1.f5], _, ([] : Chunk), (([] : Chunk) ++ ([] : Chunk)), rfl, rfl, ⟨rfl, rfl⟩, ⟨[.int .i64 t21.1.f6], _, ([] : Chunk), ([] : Chunk), rfl, rfl, ⟨rfl, rfl⟩, ⟨rfl, rfl⟩⟩⟩⟩⟩⟩⟩⟩) (b := b37) (T := 41) (li := 3) (by kernel_rfl) (by kernel_rfl) rfl sl25 ze41 nt25 (by decide) hb40) ?_
            rintro _ _ _ ⟨rfl, AN41, cN41, CN41, rfl, HN41, rfl⟩
            refine WL.rest 4 [0, 1, 6, 7] (L' := [(0, .slice Al0 l0.length cl0), (1, .int .i64 a1), (6, .slice AN41 (y1 ++ ([t21.1] : List T41)).length cN41), (7, .int .i64 t5.2.2.1)]) (by kernel_rfl) ?_
            refine QP.blockN ?_
            refine QP.dropAt 2 ?_
            refine QP.dropAt 1 ?_
            refine QP.lower hle16 ?_
            refine QP.pick [0, 1, 6, 7] ?_
            exact QP.meet ⟨kn4, Nat.lt_succ_self _, (y1 ++ ([t21.1] : List T41)), t5.2.2.1, h, AN41, cN41, CN41, rfl, rfl, rfl, (HN41.flat (kInt_flat .i64))⟩

/-! ### grapevine/segment.Same: function 23 -/
def segment_Same (k : Nat) (a0 : T41) (a1 : T41) : Option Bool := ((if a0.f0 = a1.f0 then ((slices_Equal_int_int k a0.f1 a1.f1).bind fun t6 => (if t6 = true then ((slices_Equal_int_int k a0.f2 a1.f2).bind fun t11 => (if t11 = true then ((record_Same (⟨a0.f3, a0.f4, a0.f5, a0.f6, a0.f7⟩ : T39) (⟨a1.f3, a1.f4, a1.f5, a1.f6, a1.f7⟩ : T39)).bind fun t16 => some t16) else some false)) else some false)) else some false).bind fun s3 => some s3)
set_option maxHeartbeats 4000000 in
theorem segment_Same_calls {B : World} {G : GMap} {Γ : List Chunk} {W : World} (k : Nat) (a0 : T41) (a1 : T41) (Aa0_f1 : Option Addr) (ca0_f1 : Nat) (Ha0_f1 : Rd (kInt .i64) G Aa0_f1 ca0_f1 a0.f1) (Aa0_f2 : Option Addr) (ca0_f2 : Nat) (Ha0_f2 : Rd (kInt .i64) G Aa0_f2 ca0_f2 a0.f2) (Aa1_f1 : Option Addr) (ca1_f1 : Nat) (Ha1_f1 : Rd (kInt .i64) G Aa1_f1 ca1_f1 a1.f1) (Aa1_f2 : Option Addr) (ca1_f2 : Nat) (Ha1_f2 : Rd (kInt .i64) G Aa1_f2 ca1_f2 a1.f2) (r : Bool) (h : segment_Same k a0 a1 = some r) (hI : Inv B G (Γ) W) :
    Calls Tryd.prog 23 [.agg #[.int .i64 a0.f0, .slice Aa0_f1 a0.f1.length ca0_f1, .slice Aa0_f2 a0.f2.length ca0_f2, .int .i64 a0.f3, .int .i64 a0.f4, .int .i64 a0.f5, .int .i64 a0.f6, .string a0.f7], .agg #[.int .i64 a1.f0, .slice Aa1_f1 a1.f1.length ca1_f1, .slice Aa1_f2 a1.f2.length ca1_f2, .int .i64 a1.f3, .int .i64 a1.f4, .int .i64 a1.f5, .int .i64 a1.f6, .string a1.f7]].toArray W (Ret B (fun v G' Γ' => v = .bool r ∧ G = G' ∧ Γ = Γ')) := by
  refine calls_WP (Γ := Γ) (G := G) (B := B) Tryd.func23 rfl (by kernel_rfl) ?_ hI
  clear hI
  unfold segment_Same at h
  refine WP.seqR ?_
  refine WL.op (op := .box 41 (.tmp 0)) (ty := 0) (d := some 2) (g := none) (by kernel_rfl) (by kernel_rfl) (by kernel_rfl) (Does.new (o := .cells #[.int .i64 a0.f0, .slice Aa0_f1 a0.f1.length ca0_f1, .slice Aa0_f2 a0.f2.length ca0_f2, .int .i64 a0.f3, .int .i64 a0.f4, .int .i64 a0.f5, .int .i64 a0.f6, .string a0.f7] 41 (0, 0)) (v := fun r => .pointer (some ⟨r, 0, none⟩)) (fun r => by kernel_rfl)) ?_
  rintro _ _ _ ⟨b1, rfl, rfl, rfl⟩
  refine WL.op (op := .box 41 (.tmp 1)) (ty := 0) (d := some 3) (g := none) (by kernel_rfl) (by kernel_rfl) (by kernel_rfl) (Does.new (o := .cells #[.int .i64 a1.f0, .slice Aa1_f1 a1.f1.length ca1_f1, .slice Aa1_f2 a1.f2.length ca1_f2, .int .i64 a1.f3, .int .i64 a1.f4, .int .i64 a1.f5, .int .i64 a1.f6, .string a1.f7] 41 (0, 0)) (v := fun r => .pointer (some ⟨r, 0, none⟩)) (fun r => by kernel_rfl)) ?_
  rintro _ _ _ ⟨b2, rfl, rfl, rfl⟩
  refine WL.restQ 2 [2, 3] (L' := [(2, .pointer (some ⟨b1, 0, none⟩)), (3, .pointer (some ⟨b2, 0, none⟩))]) (by kernel_rfl) ?_
  rw [Option.bind_eq_some_iff] at h
  obtain ⟨os3, h, hk4⟩ := h
  refine WP.cut (fun L' G' Γ' => ∃ s3 : Bool, s3 = os3 ∧ L' = [(4, .bool s3)] ∧ G = G' ∧ Γ = Γ') ?_ ?_
  · clear hk4
    refine WP.region ?_
    refine WL.pure 0 1 [2, 3, 5] (L' := [(2, .pointer (some ⟨b1, 0, none⟩)), (3, .pointer (some ⟨b2, 0, none⟩)), (5, .pointer (some ⟨b1, 0, none⟩))]) (by kernel_rfl) (by decide) ?_
    refine WL.tell (op := .load 3 (.tmp 5)) (ty := 3) (d := some 6) (g := none) (by kernel_rfl) (by kernel_rfl) (by kernel_rfl) (Tells.load_box (i := 1) (b := b1) (o := 0) (agg := false) (by rfl) ag3 (by kernel_rfl) (fun _ => rfl) (Nat.le_of_ble_eq_true rfl) (v := .int .i64 a0.f0) (by kernel_rfl)) ?_
    refine WL.pure 2 3 [2, 3, 6, 7] (L' := [(2, .pointer (some ⟨b1, 0, none⟩)), (3, .pointer (some ⟨b2, 0, none⟩)), (6, .int .i64 a0.f0), (7, .pointer (some ⟨b2, 0, none⟩))]) (by kernel_rfl) (by decide) ?_
    refine WL.tell (op := .load 3 (.tmp 7)) (ty := 3) (d := some 8) (g := none) (by kernel_rfl) (by kernel_rfl) (by kernel_rfl) (Tells.load_box (i := 0) (b := b2) (o := 0) (agg := false) (by rfl) ag3 (by kernel_rfl) (fun _ => rfl) (Nat.le_of_ble_eq_true rfl) (v := .int .i64 a1.f0) (by kernel_rfl)) ?_
    refine WL.pure 4 6 [2, 3, 10] (L' := [(2, .pointer (some ⟨b1, 0, none⟩)), (3, .pointer (some ⟨b2, 0, none⟩)), (10, .bool (a0.f0 == a1.f0))]) (by kernel_rfl) (by decide) ?_
    refine WL.split 10 (b := (a0.f0 == a1.f0)) (by kernel_rfl) (fun hc => ?_) (fun hc => ?_)
    · replace hc := eq_of_beq hc
      rw [if_pos hc] at h
      have hc5 := hc
      clear hc
      refine WL.pure 6 7 [2, 3, 10, 11] (L' := [(2, .pointer (some ⟨b1, 0, none⟩)), (3, .pointer (some ⟨b2, 0, none⟩)), (10, .bool true), (11, .pointer (some ⟨b1, 1, none⟩))]) (by kernel_rfl) (by decide) ?_
      refine WL.tell (op := .load 32 (.tmp 11)) (ty := 32) (d := some 12) (g := some (5, true)) (by kernel_rfl) (by kernel_rfl) (by kernel_rfl) (Tells.load_box (i := 1) (b := b1) (o := 1) (agg := false) (by rfl) ag32 (by kernel_rfl) (fun _ => rfl) (Nat.le_of_ble_eq_true rfl) (v := .slice Aa0_f1 a0.f1.length ca0_f1) (by kernel_rfl)) ?_
      refine WL.pure 8 9 [2, 3, 10, 12, 13] (L' := [(2, .pointer (some ⟨b1, 0, none⟩)), (3, .pointer (some ⟨b2, 0, none⟩)), (10, .bool true), (12, .slice Aa0_f1 a0.f1.length ca0_f1), (13, .pointer (some ⟨b2, 1, none⟩))]) (by kernel_rfl) (by decide) ?_
      refine WL.tell (op := .load 32 (.tmp 13)) (ty := 32) (d := some 14) (g := some (5, true)) (by kernel_rfl) (by kernel_rfl) (by kernel_rfl) (Tells.load_box (i := 0) (b := b2) (o := 1) (agg := false) (by rfl) ag32 (by kernel_rfl) (fun _ => rfl) (Nat.le_of_ble_eq_true rfl) (v := .slice Aa1_f1 a1.f1.length ca1_f1) (by kernel_rfl)) ?_
      rw [Option.bind_eq_some_iff] at h
      obtain ⟨t6, ht7, h⟩ := h
      refine WL.op (op := .call { callee := (.value (.func 51)), args := #[(.tmp 12), (.tmp 14)], argTypes := #[32, 32] }) (ty := 4) (d := some 15) (g := some (5, true)) (by kernel_rfl) (by kernel_rfl) (by kernel_rfl) (Does.call (f := 51) (args := [.slice Aa0_f1 a0.f1.length ca0_f1, .slice Aa1_f1 a1.f1.length ca1_f1]) (by kernel_rfl) (fun W hI => (slices_Equal_int_int_calls k a0.f1 a1.f1 Aa0_f1 ca0_f1 Ha0_f1 Aa1_f1 ca1_f1 Ha1_f1 t6 ht7 hI))) ?_
      rintro _ _ _ ⟨rfl, rfl, rfl⟩
      refine WL.pure 11 13 [2, 3, 17] (L' := [(2, .pointer (some ⟨b1, 0, none⟩)), (3, .pointer (some ⟨b2, 0, none⟩)), (17, .bool t6)]) (by kernel_rfl) (by decide) ?_
      refine WL.split 17 (b := t6) (by kernel_rfl) (fun hc => ?_) (fun hc => ?_)
      · replace hc := hc
        rw [if_pos hc] at h
        have hc10 := hc
        clear hc
        refine WL.pure 13 14 [2, 3, 17, 18] (L' := [(2, .pointer (some ⟨b1, 0, none⟩)), (3, .pointer (some ⟨b2, 0, none⟩)), (17, .bool true), (18, .pointer (some ⟨b1, 2, none⟩))]) (by kernel_rfl) (by decide) ?_
        refine WL.tell (op := .load 32 (.tmp 18)) (ty := 32) (d := some 19) (g := some (12, true)) (by kernel_rfl) (by kernel_rfl) (by kernel_rfl) (Tells.load_box (i := 1) (b := b1) (o := 2) (agg := false) (by rfl) ag32 (by kernel_rfl) (fun _ => rfl) (Nat.le_of_ble_eq_true rfl) (v := .slice Aa0_f2 a0.f2.length ca0_f2) (by kernel_rfl)) ?_
        refine WL.pure 15 16 [2, 3, 17, 19, 20] (L' := [(2, .pointer (some ⟨b1, 0, none⟩)), (3, .pointer (some ⟨b2, 0, none⟩)), (17, .bool true), (19, .slice Aa0_f2 a0.f2.length ca0_f2), (20, .pointer (some ⟨b2, 2, none⟩))]) (by kernel_rfl) (by decide) ?_
        refine WL.tell (op := .load 32 (.tmp 20)) (ty := 32) (d := some 21) (g := some (12, true)) (by kernel_rfl) (by kernel_rfl) (by kernel_rfl) (Tells.load_box (i := 0) (b := b2) (o := 2) (agg := false) (by rfl) ag32 (by kernel_rfl) (fun _ => rfl) (Nat.le_of_ble_eq_true rfl) (v := .slice Aa1_f2 a1.f2.length ca1_f2) (by kernel_rfl)) ?_
        rw [Option.bind_eq_some_iff] at h
        obtain ⟨t11, ht12, h⟩ := h
        refine WL.op (op := .call { callee := (.value (.func 51)), args := #[(.tmp 19), (.tmp 21)], argTypes := #[32, 32] }) (ty := 4) (d := some 22) (g := some (12, true)) (by kernel_rfl) (by kernel_rfl) (by kernel_rfl) (Does.call (f := 51) (args := [.slice Aa0_f2 a0.f2.length ca0_f2, .slice Aa1_f2 a1.f2.length ca1_f2]) (by kernel_rfl) (fun W hI => (slices_Equal_int_int_calls k a0.f2 a1.f2 Aa0_f2 ca0_f2 Ha0_f2 Aa1_f2 ca1_f2 Ha1_f2 t11 ht12 hI))) ?_
        rintro _ _ _ ⟨rfl, rfl, rfl⟩
        refine WL.pure 18 20 [2, 3, 24] (L' := [(2, .pointer (some ⟨b1, 0, none⟩)), (3, .pointer (some ⟨b2, 0, none⟩)), (24, .bool t11)]) (by kernel_rfl) (by decide) ?_
        refine WL.split 24 (b := t11) (by kernel_rfl) (fun hc => ?_) (fun hc => ?_)
        · replace hc := hc
          rw [if_pos hc] at h
          have hc15 := hc
          clear hc
          refine WL.pure 20 21 [3, 24, 25] (L' := [(3, .pointer (some ⟨b2, 0, none⟩)), (24, .bool true), (25, .pointer (some ⟨b1, 3, none⟩))]) (by kernel_rfl) (by decide) ?_
          refine WL.tell (op := .load 39 (.tmp 25)) (ty := 39) (d := some 26) (g := some (19, true)) (by kernel_rfl) (by kernel_rfl) (by kernel_rfl) (Tells.load_box (i := 1) (b := b1) (o := 3) (agg := true) (by rfl) ag39 (by kernel_rfl) (fun h => by cases h) (Nat.le_of_ble_eq_true rfl) (v := .agg #[.int .i64 a0.f3, .int .i64 a0.f4, .int .i64 a0.f5, .int .i64 a0.f6, .string a0.f7]) (by kernel_rfl)) ?_
          refine WL.pure 22 23 [24, 26, 27] (L' := [(24, .bool true), (26, .agg #[.int .i64 a0.f3, .int .i64 a0.f4, .int .i64 a0.f5, .int .i64 a0.f6, .string a0.f7]), (27, .pointer (some ⟨b2, 3, none⟩))]) (by kernel_rfl) (by decide) ?_
          refine WL.tell (op := .load 39 (.tmp 27)) (ty := 39) (d := some 28) (g := some (19, true)) (by kernel_rfl) (by kernel_rfl) (by kernel_rfl) (Tells.load_box (i := 0) (b := b2) (o := 3) (agg := true) (by rfl) ag39 (by kernel_rfl) (fun h => by cases h) (Nat.le_of_ble_eq_true rfl) (v := .agg #[.int .i64 a1.f3, .int .i64 a1.f4, .int .i64 a1.f5, .int .i64 a1.f6, .string a1.f7]) (by kernel_rfl)) ?_
          rw [Option.bind_eq_some_iff] at h
          obtain ⟨t16, ht17, h⟩ := h
          refine WL.op (op := .call { callee := (.value (.func 52)), args := #[(.tmp 26), (.tmp 28)], argTypes := #[39, 39] }) (ty := 4) (d := some 29) (g := some (19, true)) (by kernel_rfl) (by kernel_rfl) (by kernel_rfl) (Does.call (f := 52) (args := [.agg #[.int .i64 a0.f3, .int .i64 a0.f4, .int .i64 a0.f5, .int .i64 a0.f6, .string a0.f7], .agg #[.int .i64 a1.f3, .int .i64 a1.f4, .int .i64 a1.f5, .int .i64 a1.f6, .string a1.f7]]) (by kernel_rfl) (fun W hI => (record_Same_calls (⟨a0.f3, a0.f4, a0.f5, a0.f6, a0.f7⟩ : T39) (⟨a1.f3, a1.f4, a1.f5, a1.f6, a1.f7⟩ : T39)  t16 ht17 hI))) ?_
          rintro _ _ _ ⟨rfl, rfl, rfl⟩
          refine WL.rest 25 [4] (L' := [(4, .bool t16)]) (by kernel_rfl) ?_
          refine QP.dropAt 1 ?_
          refine QP.dropAt 0 ?_
          refine QP.pick [4] ?_
          exact QP.meet ⟨_, Option.some.inj h, rfl, rfl, rfl⟩
        · replace hc := (Bool.eq_false_iff.1 hc)
          rw [if_neg hc] at h
          have hc15 := hc
          clear hc
          refine WL.rest 20 [4] (L' := [(4, .bool false)]) (by kernel_rfl) ?_
          refine QP.dropAt 1 ?_
          refine QP.dropAt 0 ?_
          refine QP.pick [4] ?_
          exact QP.meet ⟨_, Option.some.inj h, rfl, rfl, rfl⟩
      · replace hc := (Bool.eq_false_iff.1 hc)
        rw [if_neg hc] at h
        have hc10 := hc
        clear hc
        refine WL.rest 13 [4] (L' := [(4, .bool false)]) (by kernel_rfl) ?_
        refine QP.dropAt 1 ?_
        refine QP.dropAt 0 ?_
        refine QP.pick [4] ?_
        exact QP.meet ⟨_, Option.some.inj h, rfl, rfl, rfl⟩
    · replace hc := ne_of_beq_false hc
      rw [if_neg hc] at h
      have hc5 := hc
      clear hc
      refine WL.rest 6 [4] (L' := [(4, .bool false)]) (by kernel_rfl) ?_
      refine QP.dropAt 1 ?_
      refine QP.dropAt 0 ?_
      refine QP.pick [4] ?_
      exact QP.meet ⟨_, Option.some.inj h, rfl, rfl, rfl⟩
  · rintro _ _ _ ⟨s3, rfl, rfl, rfl, rfl⟩
    clear h
    replace h := hk4
    refine WP.ret ?_
    obtain rfl := Option.some.inj h
    exact QP.returned [4] [.bool s3] _ (by kernel_rfl) (by kernel_rfl) (by kernel_rfl) (fun W hI => ⟨_, _, _, rfl, ⟨rfl, rfl, rfl⟩, hI⟩)

/-! ### grapevine/grapevinelaw8.awake: function 10 -/
def grapevinelaw8_awake (k : Nat) : Option Bool := ((grapevinelaw8_base ).bind fun t1 => ((segment_Lay k t1).bind fun t5 => (if ([] : List Int).length + t5.1.length ≤ 1073741824 then (if (([] : List Int) ++ t5.1).length + t5.1.length ≤ 1073741824 then ((segment_Read k ((([] : List Int) ++ t5.1) ++ t5.1) 2).bind fun t15 => ((if t5.2 = 0 then (if (t5.1.length : Int) = 22 then (if (t15.1.length : Int) = 1 then (if t15.2 = 22 then (if 0 ≤ (0 : Int) ∧ (0 : Int) < (t15.1.length : Int) then ((grapevinelaw8_base ).bind fun t35 => ((segment_Same k (t15.1.getD (0 : Int).toNat z41) t35).bind fun t39 => (if t39 = true then ((grapevinelaw8_base ).bind fun t46 => ((segment_May k t46 2).bind fun t50 => (if t50 = true then ((grapevinelaw8_base ).bind fun t57 => ((segment_May k t57 3).bind fun t61 => some (!t61))) else some false))) else some false))) else none) else some false) else some false) else some false) else some false).bind fun s20 => some s20)) else none) else none)))
set_option maxHeartbeats 4000000 in
theorem grapevinelaw8_awake_calls {B : World} {G : GMap} {Γ : List Chunk} {W : World} (HT : Tabs B G) (k : Nat) (r : Bool) (h : grapevinelaw8_awake k  = some r) (hI : Inv B G (Γ) W) :
    Calls Tryd.prog 10 [].toArray W (Ret B (fun v G' Γ' => v = .bool r ∧ G = G' ∧ Γ = Γ')) := by
  refine calls_WP (Γ := Γ) (G := G) (B := B) Tryd.func10 rfl (by kernel_rfl) ?_ hI
  clear hI
  unfold grapevinelaw8_awake at h
  refine WP.seqP [] (L' := []) (by kernel_rfl) ?_
  refine WP.seqR ?_
  rw [Option.bind_eq_some_iff] at h
  obtain ⟨t1, ht2, h⟩ := h
  refine WL.op (op := .call { callee := (.value (.func 37)), args := #[], argTypes := #[] }) (ty := 41) (d := some 6) (g := none) (by kernel_rfl) (by kernel_rfl) (by kernel_rfl) (Does.call (f := 37) (args := []) (by kernel_rfl) (fun W hI => (grapevinelaw8_base_calls   t1 ht2 hI))) ?_
  rintro _ _ _ ⟨AR3_0, cR3_0, CR3_0, AR3_1, cR3_1, CR3_1, rfl, HR3_0, HR3_1, rfl, rfl⟩
  rw [Option.bind_eq_some_iff] at h
  obtain ⟨t5, ht6, h⟩ := h
  refine WL.op (op := .call { callee := (.value (.func 19)), args := #[(.tmp 6)], argTypes := #[41] }) (ty := 44) (d := some 7) (g := none) (by kernel_rfl) (by kernel_rfl) (by kernel_rfl) (Does.call (Φ := fun v' G' Γ' => ∃ (AR70 : Option Addr), ∃ (cR70 : Nat), ∃ (CR70 : Chunk), v' = .tuple #[.slice AR70 t5.1.length cR70, .int .i64 t5.2] ∧ Ow (kInt .u8) G AR70 cR70 t5.1 CR70 ∧ G = G' ∧ CR70 :: CR3_0 :: CR3_1 :: Γ = Γ') (f := 19) (args := [.agg #[.int .i64 t1.f0, .slice AR3_0 t1.f1.length cR3_0, .slice AR3_1 t1.f2.length cR3_1, .int .i64 t1.f3, .int .i64 t1.f4, .int .i64 t1.f5, .int .i64 t1.f6, .string t1.f7]]) (by kernel_rfl) (fun W hI => (Calls.lendN (Φ := fun v' N => ∃ (AR70 : Option Addr), ∃ (cR70 : Nat), ∃ (CR70 : Chunk), v' = .tuple #[.slice AR70 t5.1.length cR70, .int .i64 t5.2] ∧ Ow (kInt .u8) G AR70 cR70 t5.1 CR70 ∧ N = [CR70]) (H := []) (i := 0) rfl hI (fun _ e l9 nl9 hI => by subst e; exact Calls.lendN (Φ := fun v' N => ∃ (AR70 : Option Addr), ∃ (cR70 : Nat), ∃ (CR70 : Chunk), v' = .tuple #[.slice AR70 t5.1.length cR70, .int .i64 t5.2] ∧ Ow (kInt .u8) G AR70 cR70 t5.1 CR70 ∧ N = [CR70]) (H := []) (i := 1) rfl hI (fun _ e l10 nl10 hI => by subst e; exact (((segment_Lay_calls ((HT.mono l9).mono l10) k t1 AR3_0 cR3_0 ((HR3_0.rdN l9 nl9).mono l10) AR3_1 cR3_1 ((HR3_1.mono l9).rdN l10 nl10) t5 ht6 hI)).mono fun _ _ hr => by obtain ⟨_, _, _, rfl, hd, hI⟩ := hr; obtain ⟨AR70, cR70, CR70, rfl, HR70, rfl, rfl⟩ := hd; exact ⟨_, _, _, rfl, ⟨[CR70], ⟨AR70, cR70, CR70, rfl, (HR70.flat (kInt_flat _)), rfl⟩, rfl, rfl⟩, hI⟩)))).mono fun _ _ hr => by obtain ⟨_, _, _, rfl, ⟨_, hd, rfl, rfl⟩, hI⟩ := hr; obtain ⟨AR70, cR70, CR70, rfl, HR70, rfl⟩ := hd; exact ⟨_, _, _, rfl, ⟨AR70, cR70, CR70, rfl, HR70, rfl, rfl⟩, hI⟩)) ?_
  rintro _ _ _ ⟨AR70, cR70, CR70, rfl, HR70, rfl, rfl⟩
  refine WL.restQ 2 [1, 2] (L' := [(1, .slice AR70 t5.1.length cR70), (2, .int .i64 t5.2)]) (by kernel_rfl) ?_
  refine WP.dropAt 2 ?_
  refine WP.dropAt 1 ?_
  refine WP.seqR ?_
  refine WL.pure 0 1 [1, 2, 11] (L' := [(1, .slice AR70 t5.1.length cR70), (2, .int .i64 t5.2), (11, .slice AR70 t5.1.length cR70)]) (by kernel_rfl) (by decide) ?_
  refine WL.addNil ?_
  by_cases hb11 : ([] : List Int).length + t5.1.length ≤ 1073741824
  case neg => rw [if_neg hb11] at h; cases h
  rw [if_pos hb11] at h
  refine WL.op (op := .call { callee := (.builtin .append), args := #[(.const (.slice none 0 0)), (.tmp 11)], argTypes := #[22, 22] }) (ty := 22) (d := some 12) (g := none) (by kernel_rfl) (by kernel_rfl) (by kernel_rfl) (Ow.append (ys := t5.1) (v := .slice AR70 t5.1.length cR70) (Ow.nil (kInt .u8) G) (i := 0) rfl (by kernel_rfl) (by kernel_rfl) (HR70.src (i := 1) rfl) sl22 ze5 nt22 (by decide) hb11) ?_
  rintro _ _ _ ⟨rfl, AN12, cN12, CN12, rfl, HN12, rfl⟩
  refine WL.pure 2 3 [1, 2, 12, 13] (L' := [(1, .slice AR70 t5.1.length cR70), (2, .int .i64 t5.2), (12, .slice AN12 (([] : List Int) ++ t5.1).length cN12), (13, .slice AR70 t5.1.length cR70)]) (by kernel_rfl) (by decide) ?_
  by_cases hb13 : (([] : List Int) ++ t5.1).length + t5.1.length ≤ 1073741824
  case neg => rw [if_neg hb13] at h; cases h
  rw [if_pos hb13] at h
  refine WL.op (op := .call { callee := (.builtin .append), args := #[(.tmp 12), (.tmp 13)], argTypes := #[22, 22] }) (ty := 22) (d := some 14) (g := none) (by kernel_rfl) (by kernel_rfl) (by kernel_rfl) (Ow.append (ys := t5.1) (v := .slice AR70 t5.1.length cR70) HN12 (i := 0) rfl (by kernel_rfl) (by kernel_rfl) (HR70.src (i := 1) rfl) sl22 ze5 nt22 (by decide) hb13) ?_
  rintro _ _ _ ⟨rfl, AN14, cN14, CN14, rfl, HN14, rfl⟩
  rw [Option.bind_eq_some_iff] at h
  obtain ⟨t15, ht16, h⟩ := h
  refine WL.op (op := .call { callee := (.value (.func 12)), args := #[(.tmp 14), (.const (.int .i64 2))], argTypes := #[22, 3] }) (ty := 26) (d := some 15) (g := none) (by kernel_rfl) (by kernel_rfl) (by kernel_rfl) (Does.call (Φ := fun v' G' Γ' => ∃ (AR170 : Option Addr), ∃ (cR170 : Nat), ∃ (CR170 : Chunk), v' = .tuple #[.slice AR170 t15.1.length cR170, .int .i64 t15.2] ∧ Dp d41 G AR170 cR170 t15.1 CR170 ∧ G = G' ∧ CR170 :: CN14 :: CR70 :: Γ = Γ') (f := 12) (args := [.slice AN14 ((([] : List Int) ++ t5.1) ++ t5.1).length cN14, .int .i64 2]) (by kernel_rfl) (fun W hI => (Calls.lendN (Φ := fun v' N => ∃ (AR170 : Option Addr), ∃ (cR170 : Nat), ∃ (CR170 : Chunk), v' = .tuple #[.slice AR170 t15.1.length cR170, .int .i64 t15.2] ∧ Dp d41 G AR170 cR170 t15.1 CR170 ∧ N = [CR170]) (H := []) (i := 0) rfl hI (fun _ e l19 nl19 hI => by subst e; exact (((segment_Read_calls (HT.mono l19) k ((([] : List Int) ++ t5.1) ++ t5.1) 2 AN14 cN14 (HN14.rdN l19 nl19) t15 ht16 hI)).mono fun _ _ hr => by obtain ⟨_, _, _, rfl, hd, hI⟩ := hr; obtain ⟨AR170, cR170, CR170, rfl, HR170, rfl, rfl⟩ := hd; exact ⟨_, _, _, rfl, ⟨[CR170], ⟨AR170, cR170, CR170, rfl, (HR170.flat (kInt_flat .i64)), rfl⟩, rfl, rfl⟩, hI⟩))).mono fun _ _ hr => by obtain ⟨_, _, _, rfl, ⟨_, hd, rfl, rfl⟩, hI⟩ := hr; obtain ⟨AR170, cR170, CR170, rfl, HR170, rfl⟩ := hd; exact ⟨_, _, _, rfl, ⟨AR170, cR170, CR170, rfl, HR170, rfl, rfl⟩, hI⟩)) ?_
  rintro _ _ _ ⟨AR170, cR170, CR170, rfl, HR170, rfl, rfl⟩
  refine WL.restQ 5 [1, 2, 3, 4] (L' := [(1, .slice AR70 t5.1.length cR70), (2, .int .i64 t5.2), (3, .slice AR170 t15.1.length cR170), (4, .int .i64 t15.2)]) (by kernel_rfl) ?_
  refine WP.dropAt 1 ?_
  rw [Option.bind_eq_some_iff] at h
  obtain ⟨os20, h, hk21⟩ := h
  refine WP.cut (fun L' G' Γ' => ∃ s20 : Bool, s20 = os20 ∧ L' = [(0, .bool s20)] ∧ G = G' ∧ Γ = Γ') ?_ ?_
  · clear hk21
    refine WP.freezeN (i := 0) rfl (fun G22 hG23 hle24 nd25 => ?_)
    have Hz26 := HR170.rdN (by rw [← hG23]; exact hle24) nd25
    rw [← hG23] at Hz26
    have Hm27 := HR70.mono hle24
    skip
    refine WP.any (N := 33) (S := [⟨some 18, [2], []⟩, ⟨some 19, [18], [0]⟩, ⟨some 20, [19], [1]⟩, ⟨some 21, [1, 20], [2]⟩, ⟨some 22, [20, 21], [2, 3]⟩, ⟨some 23, [20, 22], [2, 4]⟩, ⟨some 24, [20, 23], [2, 5]⟩, ⟨some 25, [24], [2, 6]⟩, ⟨some 26, [3, 25], [7]⟩, ⟨some 27, [25, 26], [7, 8]⟩, ⟨some 28, [25, 27], [7, 9]⟩, ⟨some 29, [25, 28], [7, 10]⟩, ⟨some 30, [29], [7, 11]⟩, ⟨some 31, [4, 30], [12]⟩, ⟨some 32, [30, 31], [12, 13]⟩, ⟨some 33, [30, 32], [12, 14]⟩, ⟨some 34, [33], [12, 15]⟩, ⟨some 35, [3, 34], [16]⟩, ⟨some 36, [34, 35], [16, 17]⟩, ⟨some 37, [34, 36], [16, 18]⟩, ⟨some 38, [34], [16]⟩, ⟨some 39, [34, 37, 38], [16, 19, 20]⟩, ⟨some 40, [34, 39], [16, 21]⟩, ⟨some 41, [40], [21, 22]⟩, ⟨some 42, [41], [23]⟩, ⟨some 43, [41, 42], [23, 24]⟩, ⟨some 44, [41, 43], [23, 25]⟩, ⟨some 45, [44], [25, 26]⟩, ⟨some 46, [45], [27]⟩, ⟨some 47, [45, 46], [27, 28]⟩, ⟨some 48, [45, 47], [27, 29]⟩, ⟨some 49, [45, 48], [27, 30]⟩, ⟨some 0, [49], [0, 1, 2, 3, 4, 5, 6, 7, 8, 9, 10, 11, 12, 13, 14, 15, 16, 17, 18, 19, 20, 21, 22, 23, 24, 25, 26, 27, 28, 29, 30, 31]⟩]) (kw := 33) (G0 := G22) (Γ0 := [] :: CR70 :: Γ) mo (by kernel_rfl) (fun hS => ?_)
    refine WA.pure [0, 1, 2] [1, 3, 4, 20] (m := 30) (b' := 7) (L' := [(1, .slice AR70 t5.1.length cR70), (3, .slice AR170 t15.1.length cR170), (4, .int .i64 t15.2), (20, .bool (t5.2 == 0))]) (by kernel_rfl) (NoPanic.then (NoPanic.body)) Under.refl hS (by kernel_rfl) ?_
    refine WA.split 20 (b := (t5.2 == 0)) (by kernel_rfl) (fun hc => ?_) (fun hc => ?_)
    · replace hc := eq_of_beq hc
      rw [if_pos hc] at h
      have hc28 := hc
      clear hc
      refine WA.pure [3, 4, 5, 6, 7] [3, 4, 25] (m := 25) (b' := 255) (L' := [(3, .slice AR170 t15.1.length cR170), (4, .int .i64 t15.2), (25, .bool ((t5.1.length : Int) == 22))]) (by kernel_rfl) (NoPanic.then (NoPanic.body)) Under.refl hS (by kernel_rfl) ?_
      refine WA.split 25 (b := ((t5.1.length : Int) == 22)) (by kernel_rfl) (fun hc => ?_) (fun hc => ?_)
      · replace hc := eq_of_beq hc
        rw [if_pos hc] at h
        have hc29 := hc
        clear hc
        refine WA.pure [8, 9, 10, 11, 12] [3, 4, 30] (m := 20) (b' := 8191) (L' := [(3, .slice AR170 t15.1.length cR170), (4, .int .i64 t15.2), (30, .bool ((t15.1.length : Int) == 1))]) (by kernel_rfl) (NoPanic.then (NoPanic.body)) Under.refl hS (by kernel_rfl) ?_
        refine WA.split 30 (b := ((t15.1.length : Int) == 1)) (by kernel_rfl) (fun hc => ?_) (fun hc => ?_)
        · replace hc := eq_of_beq hc
          rw [if_pos hc] at h
          have hc30 := hc
          clear hc
          refine WA.pure [13, 14, 15, 16] [3, 34] (m := 16) (b' := 131071) (L' := [(3, .slice AR170 t15.1.length cR170), (34, .bool (t15.2 == 22))]) (by kernel_rfl) (NoPanic.then (NoPanic.body)) Under.refl hS (by kernel_rfl) ?_
          refine WA.split 34 (b := (t15.2 == 22)) (by kernel_rfl) (fun hc => ?_) (fun hc => ?_)
          · replace hc := eq_of_beq hc
            rw [if_pos hc] at h
            have hc31 := hc
            clear hc
            refine WA.pure [17] [34, 35] (m := 15) (b' := 262143) (L' := [(34, .bool true), (35, .slice AR170 t15.1.length cR170)]) (by kernel_rfl) (NoPanic.then (NoPanic.body)) Under.refl hS (by kernel_rfl) ?_
            by_cases hb32 : 0 ≤ (0 : Int) ∧ (0 : Int) < (t15.1.length : Int)
            case neg => rw [if_neg hb32] at h; cases h
            rw [if_pos hb32] at h
            refine WA.tellD [] (i := 18) (m := 14) (b' := 524287) (by kernel_rfl) (NoPanic.then (NoPanic.body)) Under.refl hS (by kernel_rfl) (op := .indexAddr 25 (.tmp 35) (.const (.int .i64 0))) (ty := 0) (d := some 36) (g := some (16, true)) (by kernel_rfl) (by kernel_rfl) (by kernel_rfl) (Tells.indexAddr (A := AR170) (n := t15.1.length) (c := cR170) (k := .i64) (j := 0) (by kernel_rfl) (by kernel_rfl) (Hz26.isSome hb32.1 hb32.2) hb32.1 hb32.2 sl25) ?_
            refine WA.tellDE [] (i := 19) (m := 13) (b' := 1048575) (by kernel_rfl) (NoPanic.then (NoPanic.body)) Under.refl hS (by kernel_rfl) (op := .load 41 (.tmp 36)) (ty := 41) (d := some 37) (g := some (16, true)) (by kernel_rfl) (by kernel_rfl) (by kernel_rfl) (Hz26.load (agg := true) hb32.1 hb32.2 z41 ag41 (fun h => by cases h) (by kernel_rfl)) ?_
            rintro _ ⟨_, _, rfl, rfl, ⟨_, _, rfl, ⟨Ae33, ce33, rfl, He33⟩, ⟨_, _, rfl, ⟨Ae34, ce34, rfl, He34⟩, ⟨_, _, rfl, rfl, ⟨_, _, rfl, rfl, ⟨_, _, rfl, rfl, ⟨_, _, rfl, rfl, rfl⟩⟩⟩⟩⟩⟩⟩
            replace He33 : Rd (kInt .i64) G22 Ae33 ce33 ((t15.1.getD (0 : Int).toNat z41).f1) := He33
            replace He34 : Rd (kInt .i64) G22 Ae34 ce34 ((t15.1.getD (0 : Int).toNat z41).f2) := He34
            rw [Option.bind_eq_some_iff] at h
            obtain ⟨t35, ht36, h⟩ := h
            refine WA.op (i := 20) (m := 12) (b' := 2097151) (by kernel_rfl) hS (by kernel_rfl) (op := .call { callee := (.value (.func 37)), args := #[], argTypes := #[] }) (ty := 41) (d := some 38) (g := some (16, true)) (by kernel_rfl) (by kernel_rfl) (by kernel_rfl) (Does.call (f := 37) (args := []) (by kernel_rfl) (fun W hI => (grapevinelaw8_base_calls   t35 ht36 hI))) ?_
            rintro _ _ _ ⟨AR37_0, cR37_0, CR37_0, AR37_1, cR37_1, CR37_1, rfl, HR37_0, HR37_1, rfl, rfl⟩
            refine ⟨_, _, Under.cons (Under.cons (Under.refl)), Under.refl, ?_⟩
            rw [Option.bind_eq_some_iff] at h
            obtain ⟨t39, ht40, h⟩ := h
            refine WA.op (i := 21) (m := 11) (b' := 4194303) (by kernel_rfl) hS (by kernel_rfl) (op := .call { callee := (.value (.func 23)), args := #[(.tmp 37), (.tmp 38)], argTypes := #[41, 41] }) (ty := 4) (d := some 39) (g := some (16, true)) (by kernel_rfl) (by kernel_rfl) (by kernel_rfl) (Does.call (Φ := fun v' G' Γ' => v' = .bool t39 ∧ G22 = G' ∧ CR37_0 :: CR37_1 :: [] :: CR70 :: Γ = Γ') (f := 23) (args := [.agg #[.int .i64 ((t15.1.getD (0 : Int).toNat z41).f0), .slice Ae33 ((t15.1.getD (0 : Int).toNat z41).f1).length ce33, .slice Ae34 ((t15.1.getD (0 : Int).toNat z41).f2).length ce34, .int .i64 ((t15.1.getD (0 : Int).toNat z41).f3), .int .i64 ((t15.1.getD (0 : Int).toNat z41).f4), .int .i64 ((t15.1.getD (0 : Int).toNat z41).f5), .int .i64 ((t15.1.getD (0 : Int).toNat z41).f6), .string ((t15.1.getD (0 : Int).toNat z41).f7)], .agg #[.int .i64 t35.f0, .slice AR37_0 t35.f1.length cR37_0, .slice AR37_1 t35.f2.length cR37_1, .int .i64 t35.f3, .int .i64 t35.f4, .int .i64 t35.f5, .int .i64 t35.f6, .string t35.f7]]) (by kernel_rfl) (fun W hI => (Calls.lendN (Φ := fun v' N => v' = .bool t39 ∧ N = []) (H := []) (i := 0) rfl hI (fun _ e l43 nl43 hI => by subst e; exact Calls.lendN (Φ := fun v' N => v' = .bool t39 ∧ N = []) (H := []) (i := 1) rfl hI (fun _ e l44 nl44 hI => by subst e; exact (((segment_Same_calls k (t15.1.getD (0 : Int).toNat z41) t35 Ae33 ce33 ((He33.mono l43).mono l44) Ae34 ce34 ((He34.mono l43).mono l44) AR37_0 cR37_0 ((HR37_0.rdN l43 nl43).mono l44) AR37_1 cR37_1 ((HR37_1.mono l43).rdN l44 nl44) t39 ht40 hI)).mono fun _ _ hr => by obtain ⟨_, _, _, rfl, hd, hI⟩ := hr; obtain ⟨rfl, rfl, rfl⟩ := hd; exact ⟨_, _, _, rfl, ⟨[], ⟨rfl, rfl⟩, rfl, rfl⟩, hI⟩)))).mono fun _ _ hr => by obtain ⟨_, _, _, rfl, ⟨_, hd, rfl, rfl⟩, hI⟩ := hr; obtain ⟨rfl, rfl⟩ := hd; exact ⟨_, _, _, rfl, ⟨rfl, rfl, rfl⟩, hI⟩)) ?_
            rintro _ _ _ ⟨rfl, rfl, rfl⟩
            refine ⟨_, _, Under.refl, Under.refl, ?_⟩
            refine WA.pure [22, 23] [41] (m := 9) (b' := 16777215) (L' := [(41, .bool t39)]) (by kernel_rfl) (NoPanic.then (NoPanic.body)) Under.refl hS (by kernel_rfl) ?_
            refine WA.split 41 (b := t39) (by kernel_rfl) (fun hc => ?_) (fun hc => ?_)
            · replace hc := hc
              rw [if_pos hc] at h
              have hc45 := hc
              clear hc
              rw [Option.bind_eq_some_iff] at h
              obtain ⟨t46, ht47, h⟩ := h
              refine WA.op (i := 24) (m := 8) (b' := 33554431) (by kernel_rfl) hS (by kernel_rfl) (op := .call { callee := (.value (.func 37)), args := #[], argTypes := #[] }) (ty := 41) (d := some 42) (g := some (23, true)) (by kernel_rfl) (by kernel_rfl) (by kernel_rfl) (Does.call (f := 37) (args := []) (by kernel_rfl) (fun W hI => (grapevinelaw8_base_calls   t46 ht47 hI))) ?_
              rintro _ _ _ ⟨AR48_0, cR48_0, CR48_0, AR48_1, cR48_1, CR48_1, rfl, HR48_0, HR48_1, rfl, rfl⟩
              refine ⟨_, _, Under.cons (Under.cons (Under.refl)), Under.refl, ?_⟩
              rw [Option.bind_eq_some_iff] at h
              obtain ⟨t50, ht51, h⟩ := h
              refine WA.op (i := 25) (m := 7) (b' := 67108863) (by kernel_rfl) hS (by kernel_rfl) (op := .call { callee := (.value (.func 18)), args := #[(.tmp 42), (.const (.int .i64 2))], argTypes := #[41, 3] }) (ty := 4) (d := some 43) (g := some (23, true)) (by kernel_rfl) (by kernel_rfl) (by kernel_rfl) (Does.call (Φ := fun v' G' Γ' => v' = .bool t50 ∧ G22 = G' ∧ CR48_0 :: CR48_1 :: CR37_0 :: CR37_1 :: [] :: CR70 :: Γ = Γ') (f := 18) (args := [.agg #[.int .i64 t46.f0, .slice AR48_0 t46.f1.length cR48_0, .slice AR48_1 t46.f2.length cR48_1, .int .i64 t46.f3, .int .i64 t46.f4, .int .i64 t46.f5, .int .i64 t46.f6, .string t46.f7], .int .i64 2]) (by kernel_rfl) (fun W hI => (Calls.lendN (Φ := fun v' N => v' = .bool t50 ∧ N = []) (H := []) (i := 0) rfl hI (fun _ e l54 nl54 hI => by subst e; exact Calls.lendN (Φ := fun v' N => v' = .bool t50 ∧ N = []) (H := []) (i := 1) rfl hI (fun _ e l55 nl55 hI => by subst e; exact (((segment_May_calls (((HT.mono hle24).mono l54).mono l55) k t46 2 AR48_0 cR48_0 ((HR48_0.rdN l54 nl54).mono l55) AR48_1 cR48_1 ((HR48_1.mono l54).rdN l55 nl55) t50 ht51 hI)).mono fun _ _ hr => by obtain ⟨_, _, _, rfl, hd, hI⟩ := hr; obtain ⟨rfl, rfl, rfl⟩ := hd; exact ⟨_, _, _, rfl, ⟨[], ⟨rfl, rfl⟩, rfl, rfl⟩, hI⟩)))).mono fun _ _ hr => by obtain ⟨_, _, _, rfl, ⟨_, hd, rfl, rfl⟩, hI⟩ := hr; obtain ⟨rfl, rfl⟩ := hd; exact ⟨_, _, _, rfl, ⟨rfl, rfl, rfl⟩, hI⟩)) ?_
              rintro _ _ _ ⟨rfl, rfl, rfl⟩
              refine ⟨_, _, Under.refl, Under.refl, ?_⟩
              refine WA.pure [26, 27] [45] (m := 5) (b' := 268435455) (L' := [(45, .bool t50)]) (by kernel_rfl) (NoPanic.then (NoPanic.body)) Under.refl hS (by kernel_rfl) ?_
              refine WA.split 45 (b := t50) (by kernel_rfl) (fun hc => ?_) (fun hc => ?_)
              · replace hc := hc
                rw [if_pos hc] at h
                have hc56 := hc
                clear hc
                rw [Option.bind_eq_some_iff] at h
                obtain ⟨t57, ht58, h⟩ := h
                refine WA.op (i := 28) (m := 4) (b' := 536870911) (by kernel_rfl) hS (by kernel_rfl) (op := .call { callee := (.value (.func 37)), args := #[], argTypes := #[] }) (ty := 41) (d := some 46) (g := some (27, true)) (by kernel_rfl) (by kernel_rfl) (by kernel_rfl) (Does.call (f := 37) (args := []) (by kernel_rfl) (fun W hI => (grapevinelaw8_base_calls   t57 ht58 hI))) ?_
                rintro _ _ _ ⟨AR59_0, cR59_0, CR59_0, AR59_1, cR59_1, CR59_1, rfl, HR59_0, HR59_1, rfl, rfl⟩
                refine ⟨_, _, Under.cons (Under.cons (Under.refl)), Under.refl, ?_⟩
                rw [Option.bind_eq_some_iff] at h
                obtain ⟨t61, ht62, h⟩ := h
                refine WA.op (i := 29) (m := 3) (b' := 1073741823) (by kernel_rfl) hS (by kernel_rfl) (op := .call { callee := (.value (.func 18)), args := #[(.tmp 46), (.const (.int .i64 3))], argTypes := #[41, 3] }) (ty := 4) (d := some 47) (g := some (27, true)) (by kernel_rfl) (by kernel_rfl) (by kernel_rfl) (Does.call (Φ := fun v' G' Γ' => v' = .bool t61 ∧ G22 = G' ∧ CR59_0 :: CR59_1 :: CR48_0 :: CR48_1 :: CR37_0 :: CR37_1 :: [] :: CR70 :: Γ = Γ') (f := 18) (args := [.agg #[.int .i64 t57.f0, .slice AR59_0 t57.f1.length cR59_0, .slice AR59_1 t57.f2.length cR59_1, .int .i64 t57.f3, .int .i64 t57.f4, .int .i64 t57.f5, .int .i64 t57.f6, .string t57.f7], .int .i64 3]) (by kernel_rfl) (fun W hI => (Calls.lendN (Φ := fun v' N => v' = .bool t61 ∧ N = []) (H := []) (i := 0) rfl hI (fun _ e l65 nl65 hI => by subst e; exact Calls.lendN (Φ := fun v' N => v' = .bool t61 ∧ N = []) (H := []) (i := 1) rfl hI (fun _ e l66 nl66 hI => by subst e; exact (((segment_May_calls (((HT.mono hle24).mono l65).mono l66) k t57 3 AR59_0 cR59_0 ((HR59_0.rdN l65 nl65).mono l66) AR59_1 cR59_1 ((HR59_1.mono l65).rdN l66 nl66) t61 ht62 hI)).mono fun _ _ hr => by obtain ⟨_, _, _, rfl, hd, hI⟩ := hr; obtain ⟨rfl, rfl, rfl⟩ := hd; exact ⟨_, _, _, rfl, ⟨[], ⟨rfl, rfl⟩, rfl, rfl⟩, hI⟩)))).mono fun _ _ hr => by obtain ⟨_, _, _, rfl, ⟨_, hd, rfl, rfl⟩, hI⟩ := hr; obtain ⟨rfl, rfl⟩ := hd; exact ⟨_, _, _, rfl, ⟨rfl, rfl, rfl⟩, hI⟩)) ?_
                rintro _ _ _ ⟨rfl, rfl, rfl⟩
                refine ⟨_, _, Under.refl, Under.refl, ?_⟩
                refine WA.pure [30, 31, 32] [0] (m := 0) (b' := 8589934591) (L' := [(0, .bool (!t61))]) (by kernel_rfl) (NoPanic.then (NoPanic.body)) Under.refl hS (by kernel_rfl) ?_
                refine WA.done hS (by kernel_rfl) ?_
                refine QP.pick [0] ?_
                refine QP.dropAt 7 ?_
                refine QP.dropAt 6 ?_
                refine QP.dropAt 5 ?_
                refine QP.dropAt 4 ?_
                refine QP.dropAt 3 ?_
                refine QP.dropAt 2 ?_
                refine QP.dropAt 1 ?_
                refine QP.dropAt 0 ?_
                refine QP.lower hle24 ?_
                refine QP.pick [0] ?_
                exact QP.meet ⟨_, Option.some.inj h, rfl, rfl, rfl⟩
              · replace hc := (Bool.eq_false_iff.1 hc)
                rw [if_neg hc] at h
                have hc56 := hc
                clear hc
                refine WA.pure [28, 29, 30, 31, 32] [0] (m := 0) (b' := 8589934591) (L' := [(0, .bool false)]) (by kernel_rfl) (NoPanic.then (NoPanic.body)) Under.refl hS (by kernel_rfl) ?_
                refine WA.done hS (by kernel_rfl) ?_
                refine QP.pick [0] ?_
                refine QP.dropAt 5 ?_
                refine QP.dropAt 4 ?_
                refine QP.dropAt 3 ?_
                refine QP.dropAt 2 ?_
                refine QP.dropAt 1 ?_
                refine QP.dropAt 0 ?_
                refine QP.lower hle24 ?_
                refine QP.pick [0] ?_
                exact QP.meet ⟨_, Option.some.inj h, rfl, rfl, rfl⟩
            · replace hc := (Bool.eq_false_iff.1 hc)
              rw [if_neg hc] at h
              have hc45 := hc
              clear hc
              refine WA.pure [24, 25, 26, 27, 28, 29, 30, 31, 32] [0] (m := 0) (b' := 8589934591) (L' := [(0, .bool false)]) (by kernel_rfl) (NoPanic.then (NoPanic.body)) Under.refl hS (by kernel_rfl) ?_
              refine WA.done hS (by kernel_rfl) ?_
              refine QP.pick [0] ?_
              refine QP.dropAt 3 ?_
              refine QP.dropAt 2 ?_
              refine QP.dropAt 1 ?_
              refine QP.dropAt 0 ?_
              refine QP.lower hle24 ?_
              refine QP.pick [0] ?_
              exact QP.meet ⟨_, Option.some.inj h, rfl, rfl, rfl⟩
          · replace hc := ne_of_beq_false hc
            rw [if_neg hc] at h
            have hc31 := hc
            clear hc
            refine WA.pure [17, 18, 19, 20, 21, 22, 23, 24, 25, 26, 27, 28, 29, 30, 31, 32] [0] (m := 0) (b' := 8589934591) (L' := [(0, .bool false)]) (by kernel_rfl) (NoPanic.then (NoPanic.body)) Under.refl hS (by kernel_rfl) ?_
            refine WA.done hS (by kernel_rfl) ?_
            refine QP.pick [0] ?_
            refine QP.dropAt 1 ?_
            refine QP.dropAt 0 ?_
            refine QP.lower hle24 ?_
            refine QP.pick [0] ?_
            exact QP.meet ⟨_, Option.some.inj h, rfl, rfl, rfl⟩
        · replace hc := ne_of_beq_false hc
          rw [if_neg hc] at h
          have hc30 := hc
          clear hc
          refine WA.pure [13, 14, 15, 16, 17, 18, 19, 20, 21, 22, 23, 24, 25, 26, 27, 28, 29, 30, 31, 32] [0] (m := 0) (b' := 8589934591) (L' := [(0, .bool false)]) (by kernel_rfl) (NoPanic.then (NoPanic.body)) Under.refl hS (by kernel_rfl) ?_
          refine WA.done hS (by kernel_rfl) ?_
          refine QP.pick [0] ?_
          refine QP.dropAt 1 ?_
          refine QP.dropAt 0 ?_
          refine QP.lower hle24 ?_
          refine QP.pick [0] ?_
          exact QP.meet ⟨_, Option.some.inj h, rfl, rfl, rfl⟩
      · replace hc := ne_of_beq_false hc
        rw [if_neg hc] at h
        have hc29 := hc
        clear hc
        refine WA.pure [8, 9, 10, 11, 12, 13, 14, 15, 16, 17, 18, 19, 20, 21, 22, 23, 24, 25, 26, 27, 28, 29, 30, 31, 32] [0] (m := 0) (b' := 8589934591) (L' := [(0, .bool false)]) (by kernel_rfl) (NoPanic.then (NoPanic.body)) Under.refl hS (by kernel_rfl) ?_
        refine WA.done hS (by kernel_rfl) ?_
        refine QP.pick [0] ?_
        refine QP.dropAt 1 ?_
        refine QP.dropAt 0 ?_
        refine QP.lower hle24 ?_
        refine QP.pick [0] ?_
        exact QP.meet ⟨_, Option.some.inj h, rfl, rfl, rfl⟩
    · replace hc := ne_of_beq_false hc
      rw [if_neg hc] at h
      have hc28 := hc
      clear hc
      refine WA.pure [3, 4, 5, 6, 7, 8, 9, 10, 11, 12, 13, 14, 15, 16, 17, 18, 19, 20, 21, 22, 23, 24, 25, 26, 27, 28, 29, 30, 31, 32] [0] (m := 0) (b' := 8589934591) (L' := [(0, .bool false)]) (by kernel_rfl) (NoPanic.then (NoPanic.body)) Under.refl hS (by kernel_rfl) ?_
      refine WA.done hS (by kernel_rfl) ?_
      refine QP.pick [0] ?_
      refine QP.dropAt 1 ?_
      refine QP.dropAt 0 ?_
      refine QP.lower hle24 ?_
      refine QP.pick [0] ?_
      exact QP.meet ⟨_, Option.some.inj h, rfl, rfl, rfl⟩
  · rintro _ _ _ ⟨s20, rfl, rfl, rfl, rfl⟩
    clear h
    replace h := hk21
    refine WP.ret ?_
    obtain rfl := Option.some.inj h
    exact QP.returned [0] [.bool s20] _ (by kernel_rfl) (by kernel_rfl) (by kernel_rfl) (fun W hI => ⟨_, _, _, rfl, ⟨rfl, rfl, rfl⟩, hI⟩)

/-! ### grapevine/grapevinelaw8.great: function 17 -/
def grapevinelaw8_great (a0 : T41) : Option Bool := ((if (a0.f7.size : Int) > 300 then some true else (if (a0.f1.length : Int) > 20 then some true else some (decide ((a0.f2.length : Int) > 20)))).bind fun s2 => some s2)
set_option maxHeartbeats 4000000 in
theorem grapevinelaw8_great_calls {B : World} {G : GMap} {Γ : List Chunk} {W : World} (a0 : T41) (Aa0_f1 : Option Addr) (ca0_f1 : Nat) (Ha0_f1 : Rd (kInt .i64) G Aa0_f1 ca0_f1 a0.f1) (Aa0_f2 : Option Addr) (ca0_f2 : Nat) (Ha0_f2 : Rd (kInt .i64) G Aa0_f2 ca0_f2 a0.f2) (r : Bool) (h : grapevinelaw8_great a0 = some r) (hI : Inv B G (Γ) W) :
    Calls Tryd.prog 17 [.agg #[.int .i64 a0.f0, .slice Aa0_f1 a0.f1.length ca0_f1, .slice Aa0_f2 a0.f2.length ca0_f2, .int .i64 a0.f3, .int .i64 a0.f4, .int .i64 a0.f5, .int .i64 a0.f6, .string a0.f7]].toArray W (Ret B (fun v G' Γ' => v = .bool r ∧ G = G' ∧ Γ = Γ')) := by
  refine calls_WP (Γ := Γ) (G := G) (B := B) Tryd.func17 rfl (by kernel_rfl) ?_ hI
  clear hI
  unfold grapevinelaw8_great at h
  refine WP.seqR ?_
  refine WL.op (op := .box 41 (.tmp 0)) (ty := 0) (d := some 1) (g := none) (by kernel_rfl) (by kernel_rfl) (by kernel_rfl) (Does.new (o := .cells #[.int .i64 a0.f0, .slice Aa0_f1 a0.f1.length ca0_f1, .slice Aa0_f2 a0.f2.length ca0_f2, .int .i64 a0.f3, .int .i64 a0.f4, .int .i64 a0.f5, .int .i64 a0.f6, .string a0.f7] 41 (0, 0)) (v := fun r => .pointer (some ⟨r, 0, none⟩)) (fun r => by kernel_rfl)) ?_
  rintro _ _ _ ⟨b1, rfl, rfl, rfl⟩
  refine WL.restQ 1 [1] (L' := [(1, .pointer (some ⟨b1, 0, none⟩))]) (by kernel_rfl) ?_
  rw [Option.bind_eq_some_iff] at h
  obtain ⟨os2, h, hk3⟩ := h
  refine WP.cut (fun L' G' Γ' => ∃ s2 : Bool, s2 = os2 ∧ L' = [(2, .bool s2)] ∧ G = G' ∧ Γ = Γ') ?_ ?_
  · clear hk3
    refine WP.region ?_
    refine WL.pure 0 2 [1, 4] (L' := [(1, .pointer (some ⟨b1, 0, none⟩)), (4, .pointer (some ⟨b1, 7, none⟩))]) (by kernel_rfl) (by decide) ?_
    refine WL.tell (op := .load 9 (.tmp 4)) (ty := 9) (d := some 5) (g := none) (by kernel_rfl) (by kernel_rfl) (by kernel_rfl) (Tells.load_box (i := 0) (b := b1) (o := 7) (agg := false) (by rfl) ag9 (by kernel_rfl) (fun _ => rfl) (Nat.le_of_ble_eq_true rfl) (v := .string a0.f7) (by kernel_rfl)) ?_
    refine WL.pure 3 6 [1, 8] (L' := [(1, .pointer (some ⟨b1, 0, none⟩)), (8, .bool (decide ((a0.f7.size : Int) > 300)))]) (by kernel_rfl) (by decide) ?_
    refine WL.split 8 (b := decide ((a0.f7.size : Int) > 300)) (by kernel_rfl) (fun hc => ?_) (fun hc => ?_)
    · replace hc := of_decide_eq_true hc
      rw [if_pos hc] at h
      have hc4 := hc
      clear hc
      refine WL.rest 6 [2] (L' := [(2, .bool true)]) (by kernel_rfl) ?_
      refine QP.dropAt 0 ?_
      refine QP.pick [2] ?_
      exact QP.meet ⟨_, Option.some.inj h, rfl, rfl, rfl⟩
    · replace hc := of_decide_eq_false hc
      rw [if_neg hc] at h
      have hc4 := hc
      clear hc
      refine WL.pure 6 7 [1, 8, 9] (L' := [(1, .pointer (some ⟨b1, 0, none⟩)), (8, .bool false), (9, .pointer (some ⟨b1, 1, none⟩))]) (by kernel_rfl) (by decide) ?_
      refine WL.tell (op := .load 32 (.tmp 9)) (ty := 32) (d := some 10) (g := some (5, false)) (by kernel_rfl) (by kernel_rfl) (by kernel_rfl) (Tells.load_box (i := 0) (b := b1) (o := 1) (agg := false) (by rfl) ag32 (by kernel_rfl) (fun _ => rfl) (Nat.le_of_ble_eq_true rfl) (v := .slice Aa0_f1 a0.f1.length ca0_f1) (by kernel_rfl)) ?_
      refine WL.pure 8 12 [1, 14] (L' := [(1, .pointer (some ⟨b1, 0, none⟩)), (14, .bool (decide ((a0.f1.length : Int) > 20)))]) (by kernel_rfl) (by decide) ?_
      refine WL.split 14 (b := decide ((a0.f1.length : Int) > 20)) (by kernel_rfl) (fun hc => ?_) (fun hc => ?_)
      · replace hc := of_decide_eq_true hc
        rw [if_pos hc] at h
        have hc5 := hc
        clear hc
        refine WL.rest 12 [2] (L' := [(2, .bool true)]) (by kernel_rfl) ?_
        refine QP.dropAt 0 ?_
        refine QP.pick [2] ?_
        exact QP.meet ⟨_, Option.some.inj h, rfl, rfl, rfl⟩
      · replace hc := of_decide_eq_false hc
        rw [if_neg hc] at h
        have hc5 := hc
        clear hc
        refine WL.pure 12 13 [14, 15] (L' := [(14, .bool false), (15, .pointer (some ⟨b1, 2, none⟩))]) (by kernel_rfl) (by decide) ?_
        refine WL.tell (op := .load 32 (.tmp 15)) (ty := 32) (d := some 16) (g := some (11, false)) (by kernel_rfl) (by kernel_rfl) (by kernel_rfl) (Tells.load_box (i := 0) (b := b1) (o := 2) (agg := false) (by rfl) ag32 (by kernel_rfl) (fun _ => rfl) (Nat.le_of_ble_eq_true rfl) (v := .slice Aa0_f2 a0.f2.length ca0_f2) (by kernel_rfl)) ?_
        refine WL.rest 14 [2] (L' := [(2, .bool (decide ((a0.f2.length : Int) > 20)))]) (by kernel_rfl) ?_
        refine QP.dropAt 0 ?_
        refine QP.pick [2] ?_
        exact QP.meet ⟨_, Option.some.inj h, rfl, rfl, rfl⟩
  · rintro _ _ _ ⟨s2, rfl, rfl, rfl, rfl⟩
    clear h
    replace h := hk3
    refine WP.ret ?_
    obtain rfl := Option.some.inj h
    exact QP.returned [2] [.bool s2] _ (by kernel_rfl) (by kernel_rfl) (by kernel_rfl) (fun W hI => ⟨_, _, _, rfl, ⟨rfl, rfl, rfl⟩, hI⟩)
end Go.Proofs.YtfocilpnbiciaaaDoor.Gf
