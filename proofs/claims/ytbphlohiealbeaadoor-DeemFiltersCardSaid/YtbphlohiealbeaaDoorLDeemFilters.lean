/- Walks of Go functions: what each tells, as a plain Lean function, and that the Go code comes to it. Written by gg.py of this repo. -/
import Derived.Test.YtbphlohiealbeaaDoorT
import Derived.Test.YtbphlohiealbeaaDoorF0
import Derived.Test.YtbphlohiealbeaaDoorF1
namespace Go.Proofs.YtbphlohiealbeaaDoor.Gf
open Go Go.Gg
set_option maxRecDepth 100000
set_option linter.unusedVariables false
set_option linter.unusedSimpArgs false

/-! ### grapevine/grapevinelaw15.DeemFilters: function 6 -/
def grapevinelaw15_DeemFilters (k : Nat) (a0 : T31) (a1 : Int) (a2 : Int) : Option Bool := ((if (a0.f4.size : Int) > 300 then some true else ((record_May a0).bind fun t5 => some (!t5))).bind fun s2 => (if s2 = true then ((grapevinelaw15_awake k ).bind fun t10 => some t10) else ((grapevinelaw0_Low a1 8).bind fun t14 => ((grapevinelaw0_Low a2 100).bind fun t18 => (((deem_Holds k (⟨4, t14, ([] : List ByteArray), ([] : List T25)⟩ : T25) a0).bind fun t35 => (if (t35 == (a0.f0 == t14)) = true then ((deem_Holds k (⟨5, t18, ([] : List ByteArray), ([] : List T25)⟩ : T25) a0).bind fun t40 => (if (t40 == (decide (a0.f2 ≥ t18))) = true then ((deem_Holds k (⟨6, t18, ([] : List ByteArray), ([] : List T25)⟩ : T25) a0).bind fun t45 => (if (t45 == (decide (a0.f2 ≤ t18))) = true then ((deem_Holds k (⟨7, 0, ([] : List ByteArray), ([(⟨5, t18, ([] : List ByteArray), ([] : List T25)⟩ : T25), (⟨6, t18, ([] : List ByteArray), ([] : List T25)⟩ : T25)] : List T25)⟩ : T25) a0).bind fun t50 => (if (t50 == (a0.f2 == t18)) = true then ((deem_Holds k (⟨8, 0, ([] : List ByteArray), ([(⟨5, t18, ([] : List ByteArray), ([] : List T25)⟩ : T25), (⟨6, t18, ([] : List ByteArray), ([] : List T25)⟩ : T25)] : List T25)⟩ : T25) a0).bind fun t56 => (if t56 = true then ((grapevinelaw15_awake k ).bind fun t62 => some t62) else some false)) else some false)) else some false)) else some false)) else some false)).bind fun s33 => some s33)))))
set_option maxHeartbeats 4000000 in
theorem grapevinelaw15_DeemFilters_calls {B : World} {G : GMap} {Γ : List Chunk} {W : World} (HT : Tabs B G) (k : Nat) (a0 : T31) (a1 : Int) (a2 : Int) (r : Bool) (h : grapevinelaw15_DeemFilters k a0 a1 a2 = some r) (hI : Inv B G (Γ) W) :
    Calls Tryd.prog 6 [.agg #[.int .i64 a0.f0, .int .i64 a0.f1, .int .i64 a0.f2, .int .i64 a0.f3, .string a0.f4], .int .i64 a1, .int .i64 a2].toArray W (Ret B (fun v G' Γ' => v = .bool r ∧ G = G' ∧ Γ = Γ')) := by
  refine calls_WP (Γ := Γ) (G := G) (B := B) Tryd.func6 rfl (by kernel_rfl) ?_ hI
  clear hI
  unfold grapevinelaw15_DeemFilters at h
  refine WP.seqR ?_
  refine WL.op (op := .box 31 (.tmp 0)) (ty := 0) (d := some 3) (g := none) (by kernel_rfl) (by kernel_rfl) (by kernel_rfl) (Does.new (o := .cells #[.int .i64 a0.f0, .int .i64 a0.f1, .int .i64 a0.f2, .int .i64 a0.f3, .string a0.f4] 31 (0, 0)) (v := fun r => .pointer (some ⟨r, 0, none⟩)) (fun r => by kernel_rfl)) ?_
  rintro _ _ _ ⟨b1, rfl, rfl, rfl⟩
  refine WL.restQ 1 [1, 2, 3] (L' := [(1, .int .i64 a1), (2, .int .i64 a2), (3, .pointer (some ⟨b1, 0, none⟩))]) (by kernel_rfl) ?_
  refine WP.seq ?_
  rw [Option.bind_eq_some_iff] at h
  obtain ⟨os2, h, hk3⟩ := h
  refine WP.cut (fun L' G' Γ' => ∃ s2 : Bool, s2 = os2 ∧ L' = [(1, .int .i64 a1), (2, .int .i64 a2), (3, .pointer (some ⟨b1, 0, none⟩)), (20, .bool s2)] ∧ G = G' ∧ [(b1, .cells #[.int .i64 a0.f0, .int .i64 a0.f1, .int .i64 a0.f2, .int .i64 a0.f3, .string a0.f4] 31 (0, 0))] :: Γ = Γ') ?_ ?_
  · clear hk3
    refine WP.region ?_
    refine WL.pure 0 1 [1, 2, 3, 12] (L' := [(1, .int .i64 a1), (2, .int .i64 a2), (3, .pointer (some ⟨b1, 0, none⟩)), (12, .pointer (some ⟨b1, 4, none⟩))]) (by kernel_rfl) (by decide) ?_
    refine WL.tell (op := .load 9 (.tmp 12)) (ty := 9) (d := some 13) (g := none) (by kernel_rfl) (by kernel_rfl) (by kernel_rfl) (Tells.load_box (i := 0) (b := b1) (o := 4) (agg := false) (by rfl) ag9 (by kernel_rfl) (fun _ => rfl) (Nat.le_of_ble_eq_true rfl) (v := .string a0.f4) (by kernel_rfl)) ?_
    refine WL.pure 2 5 [1, 2, 3, 16] (L' := [(1, .int .i64 a1), (2, .int .i64 a2), (3, .pointer (some ⟨b1, 0, none⟩)), (16, .bool (decide ((a0.f4.size : Int) > 300)))]) (by kernel_rfl) (by decide) ?_
    refine WL.split 16 (b := decide ((a0.f4.size : Int) > 300)) (by kernel_rfl) (fun hc => ?_) (fun hc => ?_)
    · replace hc := of_decide_eq_true hc
      rw [if_pos hc] at h
      have hc4 := hc
      clear hc
      refine WL.rest 5 [1, 2, 3, 20] (L' := [(1, .int .i64 a1), (2, .int .i64 a2), (3, .pointer (some ⟨b1, 0, none⟩)), (20, .bool true)]) (by kernel_rfl) ?_
      refine QP.pick [1, 2, 3, 20] ?_
      exact QP.meet ⟨_, Option.some.inj h, rfl, rfl, rfl⟩
    · replace hc := of_decide_eq_false hc
      rw [if_neg hc] at h
      have hc4 := hc
      clear hc
      refine WL.tell (op := .load 31 (.tmp 3)) (ty := 31) (d := some 17) (g := some (4, false)) (by kernel_rfl) (by kernel_rfl) (by kernel_rfl) (Tells.load_box (i := 0) (b := b1) (o := 0) (agg := true) (by rfl) ag31 (by kernel_rfl) (fun h => by cases h) (Nat.le_of_ble_eq_true rfl) (v := .agg #[.int .i64 a0.f0, .int .i64 a0.f1, .int .i64 a0.f2, .int .i64 a0.f3, .string a0.f4]) (by kernel_rfl)) ?_
      rw [Option.bind_eq_some_iff] at h
      obtain ⟨t5, ht6, h⟩ := h
      refine WL.op (op := .call { callee := (.value (.func 17)), args := #[(.tmp 17)], argTypes := #[31] }) (ty := 4) (d := some 18) (g := some (4, false)) (by kernel_rfl) (by kernel_rfl) (by kernel_rfl) (Does.call (f := 17) (args := [.agg #[.int .i64 a0.f0, .int .i64 a0.f1, .int .i64 a0.f2, .int .i64 a0.f3, .string a0.f4]]) (by kernel_rfl) (fun W hI => (record_May_calls HT a0  t5 ht6 hI))) ?_
      rintro _ _ _ ⟨rfl, rfl, rfl⟩
      refine WL.rest 7 [1, 2, 3, 20] (L' := [(1, .int .i64 a1), (2, .int .i64 a2), (3, .pointer (some ⟨b1, 0, none⟩)), (20, .bool (!t5))]) (by kernel_rfl) ?_
      refine QP.pick [1, 2, 3, 20] ?_
      exact QP.meet ⟨_, Option.some.inj h, rfl, rfl, rfl⟩
  · rintro _ _ _ ⟨s2, rfl, rfl, rfl, rfl⟩
    clear h
    replace h := hk3
    refine WP.cond (b := s2) (by kernel_rfl) (fun hc => ?_) (fun hc => ?_)
    · replace hc := hc
      rw [if_pos hc] at h
      have hc9 := hc
      clear hc
      refine WP.seqR ?_
      rw [Option.bind_eq_some_iff] at h
      obtain ⟨t10, ht11, h⟩ := h
      refine WL.op (op := .call { callee := (.value (.func 11)), args := #[], argTypes := #[] }) (ty := 4) (d := some 21) (g := none) (by kernel_rfl) (by kernel_rfl) (by kernel_rfl) (Does.call (f := 11) (args := []) (by kernel_rfl) (fun W hI => (grapevinelaw15_awake_calls HT k   t10 ht11 hI))) ?_
      rintro _ _ _ ⟨rfl, rfl, rfl⟩
      refine WL.restQ 1 [6] (L' := [(6, .bool t10)]) (by kernel_rfl) ?_
      refine WP.dropAt 0 ?_
      refine WP.ret ?_
      refine QP.thenR ?_
      obtain rfl := Option.some.inj h
      exact QP.returned [6] [.bool t10] _ (by kernel_rfl) (by kernel_rfl) (by kernel_rfl) (fun W hI => ⟨_, _, _, rfl, ⟨rfl, rfl, rfl⟩, hI⟩)
    · replace hc := (Bool.eq_false_iff.1 hc)
      rw [if_neg hc] at h
      have hc9 := hc
      clear hc
      refine WP.skip ?_
      refine QP.next ?_
      refine WP.pick [1, 2, 3] ?_
      refine WP.seqR ?_
      refine WL.pure 0 1 [1, 2, 3, 22] (L' := [(1, .int .i64 a1), (2, .int .i64 a2), (3, .pointer (some ⟨b1, 0, none⟩)), (22, .int .i64 a1)]) (by kernel_rfl) (by decide) ?_
      rw [Option.bind_eq_some_iff] at h
      obtain ⟨t14, ht15, h⟩ := h
      refine WL.op (op := .call { callee := (.value (.func 19)), args := #[(.tmp 22), (.const (.int .i64 8))], argTypes := #[3, 3] }) (ty := 3) (d := some 23) (g := none) (by kernel_rfl) (by kernel_rfl) (by kernel_rfl) (Does.call (f := 19) (args := [.int .i64 a1, .int .i64 8]) (by kernel_rfl) (fun W hI => (grapevinelaw0_Low_calls a1 8  t14 ht15 hI))) ?_
      rintro _ _ _ ⟨rfl, rfl, rfl⟩
      refine WL.pure 2 3 [1, 2, 3, 23, 24] (L' := [(1, .int .i64 a1), (2, .int .i64 a2), (3, .pointer (some ⟨b1, 0, none⟩)), (23, .int .i64 t14), (24, .int .i64 a2)]) (by kernel_rfl) (by decide) ?_
      rw [Option.bind_eq_some_iff] at h
      obtain ⟨t18, ht19, h⟩ := h
      refine WL.op (op := .call { callee := (.value (.func 19)), args := #[(.tmp 24), (.const (.int .i64 100))], argTypes := #[3, 3] }) (ty := 3) (d := some 25) (g := none) (by kernel_rfl) (by kernel_rfl) (by kernel_rfl) (Does.call (f := 19) (args := [.int .i64 a2, .int .i64 100]) (by kernel_rfl) (fun W hI => (grapevinelaw0_Low_calls a2 100  t18 ht19 hI))) ?_
      rintro _ _ _ ⟨rfl, rfl, rfl⟩
      refine WL.restQ 4 [1, 2, 3] (L' := [(1, .int .i64 t14), (2, .int .i64 t18), (3, .pointer (some ⟨b1, 0, none⟩))]) (by kernel_rfl) ?_
      refine WP.seqR ?_
      refine WL.pure 0 2 [1, 2, 3, 27] (L' := [(1, .int .i64 t14), (2, .int .i64 t18), (3, .pointer (some ⟨b1, 0, none⟩)), (27, .agg #[.int .i64 4, .int .i64 t14, .slice none 0 0, .slice none 0 0])]) (by kernel_rfl) (by decide) ?_
      refine WL.op (op := .alloc 25) (ty := 0) (d := some 7) (g := none) (by kernel_rfl) (by kernel_rfl) (by kernel_rfl) (Does.new (o := .cells #[.int .i64 0, .int .i64 0, .slice none 0 0, .slice none 0 0] 25 (0, 0)) (v := fun r => .pointer (some ⟨r, 0, none⟩)) (fun r => by kernel_rfl)) ?_
      rintro _ _ _ ⟨b22, rfl, rfl, rfl⟩
      refine WL.op (op := .store 25 (.tmp 7) (.tmp 27)) (ty := 0) (d := none) (g := none) (by kernel_rfl) (by kernel_rfl) (by kernel_rfl) (Does.store_box (i := 0) (b := b22) (o := 0) (v := .agg #[.int .i64 4, .int .i64 t14, .slice none 0 0, .slice none 0 0]) (by rfl) sz25 (by kernel_rfl) (by kernel_rfl) (by kernel_rfl) (Free.zero _) (Nat.le_of_ble_eq_true rfl) (cells' := #[.int .i64 4, .int .i64 t14, .slice none 0 0, .slice none 0 0]) (by kernel_rfl)) ?_
      rintro _ _ _ ⟨rfl, rfl, rfl⟩
      refine WL.restQ 4 [1, 2, 3, 7] (L' := [(1, .int .i64 t14), (2, .int .i64 t18), (3, .pointer (some ⟨b1, 0, none⟩)), (7, .pointer (some ⟨b22, 0, none⟩))]) (by kernel_rfl) ?_
      refine WP.seqR ?_
      refine WL.pure 0 4 [1, 2, 3, 7, 29, 31] (L' := [(1, .int .i64 t14), (2, .int .i64 t18), (3, .pointer (some ⟨b1, 0, none⟩)), (7, .pointer (some ⟨b22, 0, none⟩)), (29, .agg #[.int .i64 5, .int .i64 t18, .slice none 0 0, .slice none 0 0]), (31, .agg #[.int .i64 6, .int .i64 t18, .slice none 0 0, .slice none 0 0])]) (by kernel_rfl) (by decide) ?_
      refine WL.op (op := .alloc 25) (ty := 0) (d := some 8) (g := none) (by kernel_rfl) (by kernel_rfl) (by kernel_rfl) (Does.new (o := .cells #[.int .i64 0, .int .i64 0, .slice none 0 0, .slice none 0 0] 25 (0, 0)) (v := fun r => .pointer (some ⟨r, 0, none⟩)) (fun r => by kernel_rfl)) ?_
      rintro _ _ _ ⟨b23, rfl, rfl, rfl⟩
      refine WL.op (op := .alloc 25) (ty := 0) (d := some 9) (g := none) (by kernel_rfl) (by kernel_rfl) (by kernel_rfl) (Does.new (o := .cells #[.int .i64 0, .int .i64 0, .slice none 0 0, .slice none 0 0] 25 (0, 0)) (v := fun r => .pointer (some ⟨r, 0, none⟩)) (fun r => by kernel_rfl)) ?_
      rintro _ _ _ ⟨b24, rfl, rfl, rfl⟩
      refine WL.op (op := .store 25 (.tmp 8) (.tmp 29)) (ty := 0) (d := none) (g := none) (by kernel_rfl) (by kernel_rfl) (by kernel_rfl) (Does.store_box (i := 1) (b := b23) (o := 0) (v := .agg #[.int .i64 5, .int .i64 t18, .slice none 0 0, .slice none 0 0]) (by rfl) sz25 (by kernel_rfl) (by kernel_rfl) (by kernel_rfl) (Free.zero _) (Nat.le_of_ble_eq_true rfl) (cells' := #[.int .i64 5, .int .i64 t18, .slice none 0 0, .slice none 0 0]) (by kernel_rfl)) ?_
      rintro _ _ _ ⟨rfl, rfl, rfl⟩
      refine WL.op (op := .store 25 (.tmp 9) (.tmp 31)) (ty := 0) (d := none) (g := none) (by kernel_rfl) (by kernel_rfl) (by kernel_rfl) (Does.store_box (i := 0) (b := b24) (o := 0) (v := .agg #[.int .i64 6, .int .i64 t18, .slice none 0 0, .slice none 0 0]) (by rfl) sz25 (by kernel_rfl) (by kernel_rfl) (by kernel_rfl) (Free.zero _) (Nat.le_of_ble_eq_true rfl) (cells' := #[.int .i64 6, .int .i64 t18, .slice none 0 0, .slice none 0 0]) (by kernel_rfl)) ?_
      rintro _ _ _ ⟨rfl, rfl, rfl⟩
      refine WL.restQ 8 [1, 2, 3, 7, 8, 9] (L' := [(1, .int .i64 t14), (2, .int .i64 t18), (3, .pointer (some ⟨b1, 0, none⟩)), (7, .pointer (some ⟨b22, 0, none⟩)), (8, .pointer (some ⟨b23, 0, none⟩)), (9, .pointer (some ⟨b24, 0, none⟩))]) (by kernel_rfl) ?_
      refine WP.seqR ?_
      refine WL.tell (op := .load 25 (.tmp 8)) (ty := 25) (d := some 32) (g := none) (by kernel_rfl) (by kernel_rfl) (by kernel_rfl) (Tells.load_box (i := 1) (b := b23) (o := 0) (agg := true) (by rfl) ag25 (by kernel_rfl) (fun h => by cases h) (Nat.le_of_ble_eq_true rfl) (v := .agg #[.int .i64 5, .int .i64 t18, .slice none 0 0, .slice none 0 0]) (by kernel_rfl)) ?_
      refine WL.tell (op := .load 25 (.tmp 9)) (ty := 25) (d := some 33) (g := none) (by kernel_rfl) (by kernel_rfl) (by kernel_rfl) (Tells.load_box (i := 0) (b := b24) (o := 0) (agg := true) (by rfl) ag25 (by kernel_rfl) (fun h => by cases h) (Nat.le_of_ble_eq_true rfl) (v := .agg #[.int .i64 6, .int .i64 t18, .slice none 0 0, .slice none 0 0]) (by kernel_rfl)) ?_
      refine WL.op (op := .buildSlice 23 2 #[(0, (.tmp 32)), (1, (.tmp 33))]) (ty := 23) (d := some 34) (g := none) (by kernel_rfl) (by kernel_rfl) (by kernel_rfl) (Does.new (o := .cells #[.int .i64 5, .int .i64 t18, .slice none 0 0, .slice none 0 0, .int .i64 6, .int .i64 t18, .slice none 0 0, .slice none 0 0] 25 (0, 0)) (v := fun r => .slice (some ⟨r, 0, none⟩) 2 2) (fun r => by kernel_rfl)) ?_
      rintro _ _ _ ⟨b25, rfl, rfl, rfl⟩
      have Ho27 : Ow k25 G (some ⟨b25, 0, none⟩) 2 ([(⟨5, t18, ([] : List ByteArray), ([] : List T25)⟩ : T25), (⟨6, t18, ([] : List ByteArray), ([] : List T25)⟩ : T25)] : List T25) [(b25, .cells #[.int .i64 5, .int .i64 t18, .slice none 0 0, .slice none 0 0, .int .i64 6, .int .i64 t18, .slice none 0 0, .slice none 0 0] 25 (0, 0))] := Ow.lit (kd := k25) (G := G) (b := b25) (T := 25) (xs := ([(⟨5, t18, ([] : List ByteArray), ([] : List T25)⟩ : T25), (⟨6, t18, ([] : List ByteArray), ([] : List T25)⟩ : T25)] : List T25)) (cs := [.int .i64 5, .int .i64 t18, .slice none 0 0, .slice none 0 0, .int .i64 6, .int .i64 t18, .slice none 0 0, .slice none 0 0]) (.cons (x := (⟨5, t18, ([] : List ByteArray), ([] : List T25)⟩ : T25)) (cs := [.int .i64 5, .int .i64 t18, .slice none 0 0, .slice none 0 0]) (k25_in ⟨[.int .i64 5], _, rfl, rfl, ⟨[.int .i64 t18], _, rfl, rfl, ⟨[.slice none 0 0], _, rfl, ⟨none, 0, rfl, (Rd.nil _ _ _ _)⟩, ⟨none, 0, rfl, (Rd.nil _ _ _ _)⟩⟩⟩⟩) (.cons (x := (⟨6, t18, ([] : List ByteArray), ([] : List T25)⟩ : T25)) (cs := [.int .i64 6, .int .i64 t18, .slice none 0 0, .slice none 0 0]) (k25_in ⟨[.int .i64 6], _, rfl, rfl, ⟨[.int .i64 t18], _, rfl, rfl, ⟨[.slice none 0 0], _, rfl, ⟨none, 0, rfl, (Rd.nil _ _ _ _)⟩, ⟨none, 0, rfl, (Rd.nil _ _ _ _)⟩⟩⟩⟩) .nil))
      refine WL.pure 3 4 [1, 2, 3, 7, 8, 9, 35] (L' := [(1, .int .i64 t14), (2, .int .i64 t18), (3, .pointer (some ⟨b1, 0, none⟩)), (7, .pointer (some ⟨b22, 0, none⟩)), (8, .pointer (some ⟨b23, 0, none⟩)), (9, .pointer (some ⟨b24, 0, none⟩)), (35, .agg #[.int .i64 7, .int .i64 0, .slice none 0 0, .slice (some ⟨b25, 0, none⟩) ([(⟨5, t18, ([] : List ByteArray), ([] : List T25)⟩ : T25), (⟨6, t18, ([] : List ByteArray), ([] : List T25)⟩ : T25)] : List T25).length 2])]) (by kernel_rfl) (by decide) ?_
      refine WL.op (op := .alloc 25) (ty := 0) (d := some 10) (g := none) (by kernel_rfl) (by kernel_rfl) (by kernel_rfl) (Does.new (o := .cells #[.int .i64 0, .int .i64 0, .slice none 0 0, .slice none 0 0] 25 (0, 0)) (v := fun r => .pointer (some ⟨r, 0, none⟩)) (fun r => by kernel_rfl)) ?_
      rintro _ _ _ ⟨b28, rfl, rfl, rfl⟩
      refine WL.op (op := .store 25 (.tmp 10) (.tmp 35)) (ty := 0) (d := none) (g := none) (by kernel_rfl) (by kernel_rfl) (by kernel_rfl) (Does.store_box (i := 0) (b := b28) (o := 0) (v := .agg #[.int .i64 7, .int .i64 0, .slice none 0 0, .slice (some ⟨b25, 0, none⟩) ([(⟨5, t18, ([] : List ByteArray), ([] : List T25)⟩ : T25), (⟨6, t18, ([] : List ByteArray), ([] : List T25)⟩ : T25)] : List T25).length 2]) (by rfl) sz25 (by kernel_rfl) (by kernel_rfl) (by kernel_rfl) (Free.zero _) (Nat.le_of_ble_eq_true rfl) (cells' := #[.int .i64 7, .int .i64 0, .slice none 0 0, .slice (some ⟨b25, 0, none⟩) ([(⟨5, t18, ([] : List ByteArray), ([] : List T25)⟩ : T25), (⟨6, t18, ([] : List ByteArray), ([] : List T25)⟩ : T25)] : List T25).length 2]) (by kernel_rfl)) ?_
      rintro _ _ _ ⟨rfl, rfl, rfl⟩
      refine WL.restQ 6 [1, 2, 3, 7, 8, 9, 10] (L' := [(1, .int .i64 t14), (2, .int .i64 t18), (3, .pointer (some ⟨b1, 0, none⟩)), (7, .pointer (some ⟨b22, 0, none⟩)), (8, .pointer (some ⟨b23, 0, none⟩)), (9, .pointer (some ⟨b24, 0, none⟩)), (10, .pointer (some ⟨b28, 0, none⟩))]) (by kernel_rfl) ?_
      refine WP.seqR ?_
      refine WL.tell (op := .load 25 (.tmp 8)) (ty := 25) (d := some 36) (g := none) (by kernel_rfl) (by kernel_rfl) (by kernel_rfl) (Tells.load_box (i := 3) (b := b23) (o := 0) (agg := true) (by rfl) ag25 (by kernel_rfl) (fun h => by cases h) (Nat.le_of_ble_eq_true rfl) (v := .agg #[.int .i64 5, .int .i64 t18, .slice none 0 0, .slice none 0 0]) (by kernel_rfl)) ?_
      refine WL.tell (op := .load 25 (.tmp 9)) (ty := 25) (d := some 37) (g := none) (by kernel_rfl) (by kernel_rfl) (by kernel_rfl) (Tells.load_box (i := 2) (b := b24) (o := 0) (agg := true) (by rfl) ag25 (by kernel_rfl) (fun h => by cases h) (Nat.le_of_ble_eq_true rfl) (v := .agg #[.int .i64 6, .int .i64 t18, .slice none 0 0, .slice none 0 0]) (by kernel_rfl)) ?_
      refine WL.op (op := .buildSlice 23 2 #[(0, (.tmp 36)), (1, (.tmp 37))]) (ty := 23) (d := some 38) (g := none) (by kernel_rfl) (by kernel_rfl) (by kernel_rfl) (Does.new (o := .cells #[.int .i64 5, .int .i64 t18, .slice none 0 0, .slice none 0 0, .int .i64 6, .int .i64 t18, .slice none 0 0, .slice none 0 0] 25 (0, 0)) (v := fun r => .slice (some ⟨r, 0, none⟩) 2 2) (fun r => by kernel_rfl)) ?_
      rintro _ _ _ ⟨b29, rfl, rfl, rfl⟩
      have Ho31 : Ow k25 G (some ⟨b29, 0, none⟩) 2 ([(⟨5, t18, ([] : List ByteArray), ([] : List T25)⟩ : T25), (⟨6, t18, ([] : List ByteArray), ([] : List T25)⟩ : T25)] : List T25) [(b29, .cells #[.int .i64 5, .int .i64 t18, .slice none 0 0, .slice none 0 0, .int .i64 6, .int .i64 t18, .slice none 0 0, .slice none 0 0] 25 (0, 0))] := Ow.lit (kd := k25) (G := G) (b := b29) (T := 25) (xs := ([(⟨5, t18, ([] : List ByteArray), ([] : List T25)⟩ : T25), (⟨6, t18, ([] : List ByteArray), ([] : List T25)⟩ : T25)] : List T25)) (cs := [.int .i64 5, .int .i64 t18, .slice none 0 0, .slice none 0 0, .int .i64 6, .int .i64 t18, .slice none 0 0, .slice none 0 0]) (.cons (x := (⟨5, t18, ([] : List ByteArray), ([] : List T25)⟩ : T25)) (cs := [.int .i64 5, .int .i64 t18, .slice none 0 0, .slice none 0 0]) (k25_in ⟨[.int .i64 5], _, rfl, rfl, ⟨[.int .i64 t18], _, rfl, rfl, ⟨[.slice none 0 0], _, rfl, ⟨none, 0, rfl, (Rd.nil _ _ _ _)⟩, ⟨none, 0, rfl, (Rd.nil _ _ _ _)⟩⟩⟩⟩) (.cons (x := (⟨6, t18, ([] : List ByteArray), ([] : List T25)⟩ : T25)) (cs := [.int .i64 6, .int .i64 t18, .slice none 0 0, .slice none 0 0]) (k25_in ⟨[.int .i64 6], _, rfl, rfl, ⟨[.int .i64 t18], _, rfl, rfl, ⟨[.slice none 0 0], _, rfl, ⟨none, 0, rfl, (Rd.nil _ _ _ _)⟩, ⟨none, 0, rfl, (Rd.nil _ _ _ _)⟩⟩⟩⟩) .nil))
      refine WL.pure 3 4 [1, 2, 3, 7, 8, 9, 10, 39] (L' := [(1, .int .i64 t14), (2, .int .i64 t18), (3, .pointer (some ⟨b1, 0, none⟩)), (7, .pointer (some ⟨b22, 0, none⟩)), (8, .pointer (some ⟨b23, 0, none⟩)), (9, .pointer (some ⟨b24, 0, none⟩)), (10, .pointer (some ⟨b28, 0, none⟩)), (39, .agg #[.int .i64 8, .int .i64 0, .slice none 0 0, .slice (some ⟨b29, 0, none⟩) ([(⟨5, t18, ([] : List ByteArray), ([] : List T25)⟩ : T25), (⟨6, t18, ([] : List ByteArray), ([] : List T25)⟩ : T25)] : List T25).length 2])]) (by kernel_rfl) (by decide) ?_
      refine WL.op (op := .alloc 25) (ty := 0) (d := some 11) (g := none) (by kernel_rfl) (by kernel_rfl) (by kernel_rfl) (Does.new (o := .cells #[.int .i64 0, .int .i64 0, .slice none 0 0, .slice none 0 0] 25 (0, 0)) (v := fun r => .pointer (some ⟨r, 0, none⟩)) (fun r => by kernel_rfl)) ?_
      rintro _ _ _ ⟨b32, rfl, rfl, rfl⟩
      refine WL.op (op := .store 25 (.tmp 11) (.tmp 39)) (ty := 0) (d := none) (g := none) (by kernel_rfl) (by kernel_rfl) (by kernel_rfl) (Does.store_box (i := 0) (b := b32) (o := 0) (v := .agg #[.int .i64 8, .int .i64 0, .slice none 0 0, .slice (some ⟨b29, 0, none⟩) ([(⟨5, t18, ([] : List ByteArray), ([] : List T25)⟩ : T25), (⟨6, t18, ([] : List ByteArray), ([] : List T25)⟩ : T25)] : List T25).length 2]) (by rfl) sz25 (by kernel_rfl) (by kernel_rfl) (by kernel_rfl) (Free.zero _) (Nat.le_of_ble_eq_true rfl) (cells' := #[.int .i64 8, .int .i64 0, .slice none 0 0, .slice (some ⟨b29, 0, none⟩) ([(⟨5, t18, ([] : List ByteArray), ([] : List T25)⟩ : T25), (⟨6, t18, ([] : List ByteArray), ([] : List T25)⟩ : T25)] : List T25).length 2]) (by kernel_rfl)) ?_
      rintro _ _ _ ⟨rfl, rfl, rfl⟩
      refine WL.restQ 6 [1, 2, 3, 7, 8, 9, 10, 11] (L' := [(1, .int .i64 t14), (2, .int .i64 t18), (3, .pointer (some ⟨b1, 0, none⟩)), (7, .pointer (some ⟨b22, 0, none⟩)), (8, .pointer (some ⟨b23, 0, none⟩)), (9, .pointer (some ⟨b24, 0, none⟩)), (10, .pointer (some ⟨b28, 0, none⟩)), (11, .pointer (some ⟨b32, 0, none⟩))]) (by kernel_rfl) ?_
      rw [Option.bind_eq_some_iff] at h
      obtain ⟨os33, h, hk34⟩ := h
      refine WP.cut (fun L' G' Γ' => ∃ s33 : Bool, s33 = os33 ∧ L' = [(6, .bool s33)] ∧ G = G' ∧ Γ = Γ') ?_ ?_
      · clear hk34
        skip
        refine WP.any (N := 51) (S := [⟨some 40, [7], []⟩, ⟨some 41, [3], []⟩, ⟨some 42, [40, 41], [0, 1]⟩, ⟨some 43, [3], []⟩, ⟨some 44, [43], [3]⟩, ⟨some 45, [44], [4]⟩, ⟨some 46, [1], []⟩, ⟨some 47, [45, 46], [5, 6]⟩, ⟨some 48, [42, 47], [2, 7]⟩, ⟨some 49, [48], [2, 8]⟩, ⟨some 50, [8, 49], [9]⟩, ⟨some 51, [3, 49], [9]⟩, ⟨some 52, [49, 50, 51], [9, 10, 11]⟩, ⟨some 53, [3, 49], [9]⟩, ⟨some 54, [49, 53], [9, 13]⟩, ⟨some 55, [49, 54], [9, 14]⟩, ⟨some 56, [2, 49], [9]⟩, ⟨some 57, [49, 55, 56], [9, 15, 16]⟩, ⟨some 58, [49, 52, 57], [9, 12, 17]⟩, ⟨some 59, [49, 58], [9, 18]⟩, ⟨some 60, [59], [12, 19]⟩, ⟨some 61, [9, 60], [20]⟩, ⟨some 62, [3, 60], [20]⟩, ⟨some 63, [60, 61, 62], [20, 21, 22]⟩, ⟨some 64, [3, 60], [20]⟩, ⟨some 65, [60, 64], [20, 24]⟩, ⟨some 66, [60, 65], [20, 25]⟩, ⟨some 67, [2, 60], [20]⟩, ⟨some 68, [60, 66, 67], [20, 26, 27]⟩, ⟨some 69, [60, 63, 68], [20, 23, 28]⟩, ⟨some 70, [60, 69], [20, 29]⟩, ⟨some 71, [70], [23, 30]⟩, ⟨some 72, [10, 71], [31]⟩, ⟨some 73, [3, 71], [31]⟩, ⟨some 74, [71, 72, 73], [31, 32, 33]⟩, ⟨some 75, [3, 71], [31]⟩, ⟨some 76, [71, 75], [31, 35]⟩, ⟨some 77, [71, 76], [31, 36]⟩, ⟨some 78, [2, 71], [31]⟩, ⟨some 79, [71, 77, 78], [31, 37, 38]⟩, ⟨some 80, [71, 74, 79], [31, 34, 39]⟩, ⟨some 81, [71, 80], [31, 40]⟩, ⟨some 82, [81], [34, 41]⟩, ⟨some 83, [11, 82], [42]⟩, ⟨some 84, [3, 82], [42]⟩, ⟨some 85, [82, 83, 84], [42, 43, 44]⟩, ⟨some 86, [82, 85], [42, 45]⟩, ⟨some 87, [86], [45, 46]⟩, ⟨some 88, [87], [47]⟩, ⟨some 89, [87, 88], [47, 48]⟩, ⟨some 6, [89], [0, 1, 2, 3, 4, 5, 6, 7, 8, 9, 10, 11, 12, 13, 14, 15, 16, 17, 18, 19, 20, 21, 22, 23, 24, 25, 26, 27, 28, 29, 30, 31, 32, 33, 34, 35, 36, 37, 38, 39, 40, 41, 42, 43, 44, 45, 46, 47, 48, 49]⟩]) (kw := 51) (G0 := G) (Γ0 := [(b32, .cells #[.int .i64 8, .int .i64 0, .slice none 0 0, .slice (some ⟨b29, 0, none⟩) ([(⟨5, t18, ([] : List ByteArray), ([] : List T25)⟩ : T25), (⟨6, t18, ([] : List ByteArray), ([] : List T25)⟩ : T25)] : List T25).length 2] 25 (0, 0))] :: [(b29, .cells #[.int .i64 5, .int .i64 t18, .slice none 0 0, .slice none 0 0, .int .i64 6, .int .i64 t18, .slice none 0 0, .slice none 0 0] 25 (0, 0))] :: [(b28, .cells #[.int .i64 7, .int .i64 0, .slice none 0 0, .slice (some ⟨b25, 0, none⟩) ([(⟨5, t18, ([] : List ByteArray), ([] : List T25)⟩ : T25), (⟨6, t18, ([] : List ByteArray), ([] : List T25)⟩ : T25)] : List T25).length 2] 25 (0, 0))] :: [(b25, .cells #[.int .i64 5, .int .i64 t18, .slice none 0 0, .slice none 0 0, .int .i64 6, .int .i64 t18, .slice none 0 0, .slice none 0 0] 25 (0, 0))] :: [(b24, .cells #[.int .i64 6, .int .i64 t18, .slice none 0 0, .slice none 0 0] 25 (0, 0))] :: [(b23, .cells #[.int .i64 5, .int .i64 t18, .slice none 0 0, .slice none 0 0] 25 (0, 0))] :: [(b22, .cells #[.int .i64 4, .int .i64 t14, .slice none 0 0, .slice none 0 0] 25 (0, 0))] :: [(b1, .cells #[.int .i64 a0.f0, .int .i64 a0.f1, .int .i64 a0.f2, .int .i64 a0.f3, .string a0.f4] 31 (0, 0))] :: Γ) mo (by kernel_rfl) (fun hS => ?_)
        refine WA.pure [3, 4, 6] [2, 3, 7, 8, 9, 10, 11, 44, 46] (m := 48) (b' := 88) (L' := [(2, .int .i64 t18), (3, .pointer (some ⟨b1, 0, none⟩)), (7, .pointer (some ⟨b22, 0, none⟩)), (8, .pointer (some ⟨b23, 0, none⟩)), (9, .pointer (some ⟨b24, 0, none⟩)), (10, .pointer (some ⟨b28, 0, none⟩)), (11, .pointer (some ⟨b32, 0, none⟩)), (44, .pointer (some ⟨b1, 0, none⟩)), (46, .int .i64 t14)]) (by kernel_rfl) (NoPanic.then (NoPanic.body)) Under.refl hS (by kernel_rfl) ?_
        refine WA.tellD [] (i := 0) (m := 47) (b' := 89) (by kernel_rfl) (NoPanic.then (NoPanic.body)) Under.refl hS (by kernel_rfl) (op := .load 25 (.tmp 7)) (ty := 25) (d := some 40) (g := none) (by kernel_rfl) (by kernel_rfl) (by kernel_rfl) (Tells.load_box (i := 6) (b := b22) (o := 0) (agg := true) (by rfl) ag25 (by kernel_rfl) (fun h => by cases h) (Nat.le_of_ble_eq_true rfl) (v := .agg #[.int .i64 4, .int .i64 t14, .slice none 0 0, .slice none 0 0]) (by kernel_rfl)) ?_
        refine WA.tellD [] (i := 1) (m := 46) (b' := 91) (by kernel_rfl) (NoPanic.then (NoPanic.body)) Under.refl hS (by kernel_rfl) (op := .load 31 (.tmp 3)) (ty := 31) (d := some 41) (g := none) (by kernel_rfl) (by kernel_rfl) (by kernel_rfl) (Tells.load_box (i := 7) (b := b1) (o := 0) (agg := true) (by rfl) ag31 (by kernel_rfl) (fun h => by cases h) (Nat.le_of_ble_eq_true rfl) (v := .agg #[.int .i64 a0.f0, .int .i64 a0.f1, .int .i64 a0.f2, .int .i64 a0.f3, .string a0.f4]) (by kernel_rfl)) ?_
        refine WA.tellD [] (i := 5) (m := 45) (b' := 123) (by kernel_rfl) (NoPanic.then (NoPanic.body)) Under.refl hS (by kernel_rfl) (op := .load 3 (.tmp 44)) (ty := 3) (d := some 45) (g := none) (by kernel_rfl) (by kernel_rfl) (by kernel_rfl) (Tells.load_box (i := 7) (b := b1) (o := 0) (agg := false) (by rfl) ag3 (by kernel_rfl) (fun _ => rfl) (Nat.le_of_ble_eq_true rfl) (v := .int .i64 a0.f0) (by kernel_rfl)) ?_
        refine WA.pure [7] [2, 3, 8, 9, 10, 11, 40, 41, 47] (m := 44) (b' := 251) (L' := [(2, .int .i64 t18), (3, .pointer (some ⟨b1, 0, none⟩)), (8, .pointer (some ⟨b23, 0, none⟩)), (9, .pointer (some ⟨b24, 0, none⟩)), (10, .pointer (some ⟨b28, 0, none⟩)), (11, .pointer (some ⟨b32, 0, none⟩)), (40, .agg #[.int .i64 4, .int .i64 t14, .slice none 0 0, .slice none 0 0]), (41, .agg #[.int .i64 a0.f0, .int .i64 a0.f1, .int .i64 a0.f2, .int .i64 a0.f3, .string a0.f4]), (47, .bool (a0.f0 == t14))]) (by kernel_rfl) (NoPanic.then (NoPanic.body)) Under.refl hS (by kernel_rfl) ?_
        rw [Option.bind_eq_some_iff] at h
        obtain ⟨t35, ht36, h⟩ := h
        refine WA.op (i := 2) (m := 43) (b' := 255) (by kernel_rfl) hS (by kernel_rfl) (op := .call { callee := (.value (.func 12)), args := #[(.tmp 40), (.tmp 41)], argTypes := #[25, 31] }) (ty := 4) (d := some 42) (g := none) (by kernel_rfl) (by kernel_rfl) (by kernel_rfl) (Does.call (f := 12) (args := [.agg #[.int .i64 4, .int .i64 t14, .slice none 0 0, .slice none 0 0], .agg #[.int .i64 a0.f0, .int .i64 a0.f1, .int .i64 a0.f2, .int .i64 a0.f3, .string a0.f4]]) (by kernel_rfl) (fun W hI => (deem_Holds_calls HT k (⟨4, t14, ([] : List ByteArray), ([] : List T25)⟩ : T25) a0 none 0 (Rd.nil _ _ _ _) none 0 (Rd.nil _ _ _ _) t35 ht36 hI))) ?_
        rintro _ _ _ ⟨rfl, rfl, rfl⟩
        refine ⟨_, _, Under.refl, Under.refl, ?_⟩
        refine WA.pure [8, 9] [2, 3, 8, 9, 10, 11, 49] (m := 41) (b' := 1023) (L' := [(2, .int .i64 t18), (3, .pointer (some ⟨b1, 0, none⟩)), (8, .pointer (some ⟨b23, 0, none⟩)), (9, .pointer (some ⟨b24, 0, none⟩)), (10, .pointer (some ⟨b28, 0, none⟩)), (11, .pointer (some ⟨b32, 0, none⟩)), (49, .bool (t35 == (a0.f0 == t14)))]) (by kernel_rfl) (NoPanic.then (NoPanic.body)) Under.refl hS (by kernel_rfl) ?_
        refine WA.split 49 (b := (t35 == (a0.f0 == t14))) (by kernel_rfl) (fun hc => ?_) (fun hc => ?_)
        · replace hc := hc
          rw [if_pos hc] at h
          have hc39 := hc
          clear hc
          refine WA.pure [13, 14, 16] [2, 3, 8, 9, 10, 11, 49, 54, 56] (m := 38) (b' := 91135) (L' := [(2, .int .i64 t18), (3, .pointer (some ⟨b1, 0, none⟩)), (8, .pointer (some ⟨b23, 0, none⟩)), (9, .pointer (some ⟨b24, 0, none⟩)), (10, .pointer (some ⟨b28, 0, none⟩)), (11, .pointer (some ⟨b32, 0, none⟩)), (49, .bool true), (54, .pointer (some ⟨b1, 2, none⟩)), (56, .int .i64 t18)]) (by kernel_rfl) (NoPanic.then (NoPanic.body)) Under.refl hS (by kernel_rfl) ?_
          refine WA.tellD [] (i := 10) (m := 37) (b' := 92159) (by kernel_rfl) (NoPanic.then (NoPanic.body)) Under.refl hS (by kernel_rfl) (op := .load 25 (.tmp 8)) (ty := 25) (d := some 50) (g := some (9, true)) (by kernel_rfl) (by kernel_rfl) (by kernel_rfl) (Tells.load_box (i := 5) (b := b23) (o := 0) (agg := true) (by rfl) ag25 (by kernel_rfl) (fun h => by cases h) (Nat.le_of_ble_eq_true rfl) (v := .agg #[.int .i64 5, .int .i64 t18, .slice none 0 0, .slice none 0 0]) (by kernel_rfl)) ?_
          refine WA.tellD [] (i := 11) (m := 36) (b' := 94207) (by kernel_rfl) (NoPanic.then (NoPanic.body)) Under.refl hS (by kernel_rfl) (op := .load 31 (.tmp 3)) (ty := 31) (d := some 51) (g := some (9, true)) (by kernel_rfl) (by kernel_rfl) (by kernel_rfl) (Tells.load_box (i := 7) (b := b1) (o := 0) (agg := true) (by rfl) ag31 (by kernel_rfl) (fun h => by cases h) (Nat.le_of_ble_eq_true rfl) (v := .agg #[.int .i64 a0.f0, .int .i64 a0.f1, .int .i64 a0.f2, .int .i64 a0.f3, .string a0.f4]) (by kernel_rfl)) ?_
          refine WA.tellD [] (i := 15) (m := 35) (b' := 126975) (by kernel_rfl) (NoPanic.then (NoPanic.body)) Under.refl hS (by kernel_rfl) (op := .load 3 (.tmp 54)) (ty := 3) (d := some 55) (g := some (9, true)) (by kernel_rfl) (by kernel_rfl) (by kernel_rfl) (Tells.load_box (i := 7) (b := b1) (o := 2) (agg := false) (by rfl) ag3 (by kernel_rfl) (fun _ => rfl) (Nat.le_of_ble_eq_true rfl) (v := .int .i64 a0.f2) (by kernel_rfl)) ?_
          refine WA.pure [17] [2, 3, 9, 10, 11, 49, 50, 51, 57] (m := 34) (b' := 258047) (L' := [(2, .int .i64 t18), (3, .pointer (some ⟨b1, 0, none⟩)), (9, .pointer (some ⟨b24, 0, none⟩)), (10, .pointer (some ⟨b28, 0, none⟩)), (11, .pointer (some ⟨b32, 0, none⟩)), (49, .bool true), (50, .agg #[.int .i64 5, .int .i64 t18, .slice none 0 0, .slice none 0 0]), (51, .agg #[.int .i64 a0.f0, .int .i64 a0.f1, .int .i64 a0.f2, .int .i64 a0.f3, .string a0.f4]), (57, .bool (decide (a0.f2 ≥ t18)))]) (by kernel_rfl) (NoPanic.then (NoPanic.body)) Under.refl hS (by kernel_rfl) ?_
          rw [Option.bind_eq_some_iff] at h
          obtain ⟨t40, ht41, h⟩ := h
          refine WA.op (i := 12) (m := 33) (b' := 262143) (by kernel_rfl) hS (by kernel_rfl) (op := .call { callee := (.value (.func 12)), args := #[(.tmp 50), (.tmp 51)], argTypes := #[25, 31] }) (ty := 4) (d := some 52) (g := some (9, true)) (by kernel_rfl) (by kernel_rfl) (by kernel_rfl) (Does.call (f := 12) (args := [.agg #[.int .i64 5, .int .i64 t18, .slice none 0 0, .slice none 0 0], .agg #[.int .i64 a0.f0, .int .i64 a0.f1, .int .i64 a0.f2, .int .i64 a0.f3, .string a0.f4]]) (by kernel_rfl) (fun W hI => (deem_Holds_calls HT k (⟨5, t18, ([] : List ByteArray), ([] : List T25)⟩ : T25) a0 none 0 (Rd.nil _ _ _ _) none 0 (Rd.nil _ _ _ _) t40 ht41 hI))) ?_
          rintro _ _ _ ⟨rfl, rfl, rfl⟩
          refine ⟨_, _, Under.refl, Under.refl, ?_⟩
          refine WA.pure [18, 19, 20] [2, 3, 9, 10, 11, 60] (m := 30) (b' := 2097151) (L' := [(2, .int .i64 t18), (3, .pointer (some ⟨b1, 0, none⟩)), (9, .pointer (some ⟨b24, 0, none⟩)), (10, .pointer (some ⟨b28, 0, none⟩)), (11, .pointer (some ⟨b32, 0, none⟩)), (60, .bool (t40 == (decide (a0.f2 ≥ t18))))]) (by kernel_rfl) (NoPanic.then (NoPanic.body)) Under.refl hS (by kernel_rfl) ?_
          refine WA.split 60 (b := (t40 == (decide (a0.f2 ≥ t18)))) (by kernel_rfl) (fun hc => ?_) (fun hc => ?_)
          · replace hc := hc
            rw [if_pos hc] at h
            have hc44 := hc
            clear hc
            refine WA.pure [24, 25, 27] [2, 3, 9, 10, 11, 60, 65, 67] (m := 27) (b' := 186646527) (L' := [(2, .int .i64 t18), (3, .pointer (some ⟨b1, 0, none⟩)), (9, .pointer (some ⟨b24, 0, none⟩)), (10, .pointer (some ⟨b28, 0, none⟩)), (11, .pointer (some ⟨b32, 0, none⟩)), (60, .bool true), (65, .pointer (some ⟨b1, 2, none⟩)), (67, .int .i64 t18)]) (by kernel_rfl) (NoPanic.then (NoPanic.body)) Under.refl hS (by kernel_rfl) ?_
            refine WA.tellD [] (i := 21) (m := 26) (b' := 188743679) (by kernel_rfl) (NoPanic.then (NoPanic.body)) Under.refl hS (by kernel_rfl) (op := .load 25 (.tmp 9)) (ty := 25) (d := some 61) (g := some (20, true)) (by kernel_rfl) (by kernel_rfl) (by kernel_rfl) (Tells.load_box (i := 4) (b := b24) (o := 0) (agg := true) (by rfl) ag25 (by kernel_rfl) (fun h => by cases h) (Nat.le_of_ble_eq_true rfl) (v := .agg #[.int .i64 6, .int .i64 t18, .slice none 0 0, .slice none 0 0]) (by kernel_rfl)) ?_
            refine WA.tellD [] (i := 22) (m := 25) (b' := 192937983) (by kernel_rfl) (NoPanic.then (NoPanic.body)) Under.refl hS (by kernel_rfl) (op := .load 31 (.tmp 3)) (ty := 31) (d := some 62) (g := some (20, true)) (by kernel_rfl) (by kernel_rfl) (by kernel_rfl) (Tells.load_box (i := 7) (b := b1) (o := 0) (agg := true) (by rfl) ag31 (by kernel_rfl) (fun h => by cases h) (Nat.le_of_ble_eq_true rfl) (v := .agg #[.int .i64 a0.f0, .int .i64 a0.f1, .int .i64 a0.f2, .int .i64 a0.f3, .string a0.f4]) (by kernel_rfl)) ?_
            refine WA.tellD [] (i := 26) (m := 24) (b' := 260046847) (by kernel_rfl) (NoPanic.then (NoPanic.body)) Under.refl hS (by kernel_rfl) (op := .load 3 (.tmp 65)) (ty := 3) (d := some 66) (g := some (20, true)) (by kernel_rfl) (by kernel_rfl) (by kernel_rfl) (Tells.load_box (i := 7) (b := b1) (o := 2) (agg := false) (by rfl) ag3 (by kernel_rfl) (fun _ => rfl) (Nat.le_of_ble_eq_true rfl) (v := .int .i64 a0.f2) (by kernel_rfl)) ?_
            refine WA.pure [28] [2, 3, 10, 11, 60, 61, 62, 68] (m := 23) (b' := 528482303) (L' := [(2, .int .i64 t18), (3, .pointer (some ⟨b1, 0, none⟩)), (10, .pointer (some ⟨b28, 0, none⟩)), (11, .pointer (some ⟨b32, 0, none⟩)), (60, .bool true), (61, .agg #[.int .i64 6, .int .i64 t18, .slice none 0 0, .slice none 0 0]), (62, .agg #[.int .i64 a0.f0, .int .i64 a0.f1, .int .i64 a0.f2, .int .i64 a0.f3, .string a0.f4]), (68, .bool (decide (a0.f2 ≤ t18)))]) (by kernel_rfl) (NoPanic.then (NoPanic.body)) Under.refl hS (by kernel_rfl) ?_
            rw [Option.bind_eq_some_iff] at h
            obtain ⟨t45, ht46, h⟩ := h
            refine WA.op (i := 23) (m := 22) (b' := 536870911) (by kernel_rfl) hS (by kernel_rfl) (op := .call { callee := (.value (.func 12)), args := #[(.tmp 61), (.tmp 62)], argTypes := #[25, 31] }) (ty := 4) (d := some 63) (g := some (20, true)) (by kernel_rfl) (by kernel_rfl) (by kernel_rfl) (Does.call (f := 12) (args := [.agg #[.int .i64 6, .int .i64 t18, .slice none 0 0, .slice none 0 0], .agg #[.int .i64 a0.f0, .int .i64 a0.f1, .int .i64 a0.f2, .int .i64 a0.f3, .string a0.f4]]) (by kernel_rfl) (fun W hI => (deem_Holds_calls HT k (⟨6, t18, ([] : List ByteArray), ([] : List T25)⟩ : T25) a0 none 0 (Rd.nil _ _ _ _) none 0 (Rd.nil _ _ _ _) t45 ht46 hI))) ?_
            rintro _ _ _ ⟨rfl, rfl, rfl⟩
            refine ⟨_, _, Under.refl, Under.refl, ?_⟩
            refine WA.pure [29, 30, 31] [2, 3, 10, 11, 71] (m := 19) (b' := 4294967295) (L' := [(2, .int .i64 t18), (3, .pointer (some ⟨b1, 0, none⟩)), (10, .pointer (some ⟨b28, 0, none⟩)), (11, .pointer (some ⟨b32, 0, none⟩)), (71, .bool (t45 == (decide (a0.f2 ≤ t18))))]) (by kernel_rfl) (NoPanic.then (NoPanic.body)) Under.refl hS (by kernel_rfl) ?_
            refine WA.split 71 (b := (t45 == (decide (a0.f2 ≤ t18)))) (by kernel_rfl) (fun hc => ?_) (fun hc => ?_)
            · replace hc := hc
              rw [if_pos hc] at h
              have hc49 := hc
              clear hc
              refine WA.pure [35, 36, 38] [3, 10, 11, 71, 76, 78] (m := 16) (b' := 382252089343) (L' := [(3, .pointer (some ⟨b1, 0, none⟩)), (10, .pointer (some ⟨b28, 0, none⟩)), (11, .pointer (some ⟨b32, 0, none⟩)), (71, .bool true), (76, .pointer (some ⟨b1, 2, none⟩)), (78, .int .i64 t18)]) (by kernel_rfl) (NoPanic.then (NoPanic.body)) Under.refl hS (by kernel_rfl) ?_
              refine WA.tellD [] (i := 32) (m := 15) (b' := 386547056639) (by kernel_rfl) (NoPanic.then (NoPanic.body)) Under.refl hS (by kernel_rfl) (op := .load 25 (.tmp 10)) (ty := 25) (d := some 72) (g := some (31, true)) (by kernel_rfl) (by kernel_rfl) (by kernel_rfl) (Tells.load_box (i := 2) (b := b28) (o := 0) (agg := true) (by rfl) ag25 (by kernel_rfl) (fun h => by cases h) (Nat.le_of_ble_eq_true rfl) (v := .agg #[.int .i64 7, .int .i64 0, .slice none 0 0, .slice (some ⟨b25, 0, none⟩) ([(⟨5, t18, ([] : List ByteArray), ([] : List T25)⟩ : T25), (⟨6, t18, ([] : List ByteArray), ([] : List T25)⟩ : T25)] : List T25).length 2]) (by kernel_rfl)) ?_
              refine WA.tellD [] (i := 33) (m := 14) (b' := 395136991231) (by kernel_rfl) (NoPanic.then (NoPanic.body)) Under.refl hS (by kernel_rfl) (op := .load 31 (.tmp 3)) (ty := 31) (d := some 73) (g := some (31, true)) (by kernel_rfl) (by kernel_rfl) (by kernel_rfl) (Tells.load_box (i := 7) (b := b1) (o := 0) (agg := true) (by rfl) ag31 (by kernel_rfl) (fun h => by cases h) (Nat.le_of_ble_eq_true rfl) (v := .agg #[.int .i64 a0.f0, .int .i64 a0.f1, .int .i64 a0.f2, .int .i64 a0.f3, .string a0.f4]) (by kernel_rfl)) ?_
              refine WA.tellD [] (i := 37) (m := 13) (b' := 532575944703) (by kernel_rfl) (NoPanic.then (NoPanic.body)) Under.refl hS (by kernel_rfl) (op := .load 3 (.tmp 76)) (ty := 3) (d := some 77) (g := some (31, true)) (by kernel_rfl) (by kernel_rfl) (by kernel_rfl) (Tells.load_box (i := 7) (b := b1) (o := 2) (agg := false) (by rfl) ag3 (by kernel_rfl) (fun _ => rfl) (Nat.le_of_ble_eq_true rfl) (v := .int .i64 a0.f2) (by kernel_rfl)) ?_
              refine WA.pure [39] [3, 11, 71, 72, 73, 79] (m := 12) (b' := 1082331758591) (L' := [(3, .pointer (some ⟨b1, 0, none⟩)), (11, .pointer (some ⟨b32, 0, none⟩)), (71, .bool true), (72, .agg #[.int .i64 7, .int .i64 0, .slice none 0 0, .slice (some ⟨b25, 0, none⟩) ([(⟨5, t18, ([] : List ByteArray), ([] : List T25)⟩ : T25), (⟨6, t18, ([] : List ByteArray), ([] : List T25)⟩ : T25)] : List T25).length 2]), (73, .agg #[.int .i64 a0.f0, .int .i64 a0.f1, .int .i64 a0.f2, .int .i64 a0.f3, .string a0.f4]), (79, .bool (a0.f2 == t18))]) (by kernel_rfl) (NoPanic.then (NoPanic.body)) Under.refl hS (by kernel_rfl) ?_
              rw [Option.bind_eq_some_iff] at h
              obtain ⟨t50, ht51, h⟩ := h
              refine WA.op (i := 34) (m := 11) (b' := 1099511627775) (by kernel_rfl) hS (by kernel_rfl) (op := .call { callee := (.value (.func 12)), args := #[(.tmp 72), (.tmp 73)], argTypes := #[25, 31] }) (ty := 4) (d := some 74) (g := some (31, true)) (by kernel_rfl) (by kernel_rfl) (by kernel_rfl) (Does.call (Φ := fun v' G' Γ' => v' = .bool t50 ∧ G = G' ∧ [(b32, .cells #[.int .i64 8, .int .i64 0, .slice none 0 0, .slice (some ⟨b29, 0, none⟩) ([(⟨5, t18, ([] : List ByteArray), ([] : List T25)⟩ : T25), (⟨6, t18, ([] : List ByteArray), ([] : List T25)⟩ : T25)] : List T25).length 2] 25 (0, 0))] :: [(b29, .cells #[.int .i64 5, .int .i64 t18, .slice none 0 0, .slice none 0 0, .int .i64 6, .int .i64 t18, .slice none 0 0, .slice none 0 0] 25 (0, 0))] :: [(b28, .cells #[.int .i64 7, .int .i64 0, .slice none 0 0, .slice (some ⟨b25, 0, none⟩) ([(⟨5, t18, ([] : List ByteArray), ([] : List T25)⟩ : T25), (⟨6, t18, ([] : List ByteArray), ([] : List T25)⟩ : T25)] : List T25).length 2] 25 (0, 0))] :: [(b25, .cells #[.int .i64 5, .int .i64 t18, .slice none 0 0, .slice none 0 0, .int .i64 6, .int .i64 t18, .slice none 0 0, .slice none 0 0] 25 (0, 0))] :: [(b24, .cells #[.int .i64 6, .int .i64 t18, .slice none 0 0, .slice none 0 0] 25 (0, 0))] :: [(b23, .cells #[.int .i64 5, .int .i64 t18, .slice none 0 0, .slice none 0 0] 25 (0, 0))] :: [(b22, .cells #[.int .i64 4, .int .i64 t14, .slice none 0 0, .slice none 0 0] 25 (0, 0))] :: [(b1, .cells #[.int .i64 a0.f0, .int .i64 a0.f1, .int .i64 a0.f2, .int .i64 a0.f3, .string a0.f4] 31 (0, 0))] :: Γ = Γ') (f := 12) (args := [.agg #[.int .i64 7, .int .i64 0, .slice none 0 0, .slice (some ⟨b25, 0, none⟩) ([(⟨5, t18, ([] : List ByteArray), ([] : List T25)⟩ : T25), (⟨6, t18, ([] : List ByteArray), ([] : List T25)⟩ : T25)] : List T25).length 2], .agg #[.int .i64 a0.f0, .int .i64 a0.f1, .int .i64 a0.f2, .int .i64 a0.f3, .string a0.f4]]) (by kernel_rfl) (fun W hI => (Calls.lendN (Φ := fun v' N => v' = .bool t50 ∧ N = []) (H := []) (i := 3) rfl hI (fun _ e l54 nl54 hI => by subst e; exact (((deem_Holds_calls (HT.mono l54) k (⟨7, 0, ([] : List ByteArray), ([(⟨5, t18, ([] : List ByteArray), ([] : List T25)⟩ : T25), (⟨6, t18, ([] : List ByteArray), ([] : List T25)⟩ : T25)] : List T25)⟩ : T25) a0 none 0 (Rd.nil _ _ _ _) (some ⟨b25, 0, none⟩) 2 (Ho27.rdN l54 nl54) t50 ht51 hI)).mono fun _ _ hr => by obtain ⟨_, _, _, rfl, hd, hI⟩ := hr; obtain ⟨rfl, rfl, rfl⟩ := hd; exact ⟨_, _, _, rfl, ⟨[], ⟨rfl, rfl⟩, rfl, rfl⟩, hI⟩))).mono fun _ _ hr => by obtain ⟨_, _, _, rfl, ⟨_, hd, rfl, rfl⟩, hI⟩ := hr; obtain ⟨rfl, rfl⟩ := hd; exact ⟨_, _, _, rfl, ⟨rfl, rfl, rfl⟩, hI⟩)) ?_
              rintro _ _ _ ⟨rfl, rfl, rfl⟩
              refine ⟨_, _, Under.refl, Under.refl, ?_⟩
              refine WA.pure [40, 41, 42] [3, 11, 82] (m := 8) (b' := 8796093022207) (L' := [(3, .pointer (some ⟨b1, 0, none⟩)), (11, .pointer (some ⟨b32, 0, none⟩)), (82, .bool (t50 == (a0.f2 == t18)))]) (by kernel_rfl) (NoPanic.then (NoPanic.body)) Under.refl hS (by kernel_rfl) ?_
              refine WA.split 82 (b := (t50 == (a0.f2 == t18))) (by kernel_rfl) (fun hc => ?_) (fun hc => ?_)
              · replace hc := hc
                rw [if_pos hc] at h
                have hc55 := hc
                clear hc
                refine WA.tellD [] (i := 43) (m := 7) (b' := 17592186044415) (by kernel_rfl) (NoPanic.then (NoPanic.body)) Under.refl hS (by kernel_rfl) (op := .load 25 (.tmp 11)) (ty := 25) (d := some 83) (g := some (42, true)) (by kernel_rfl) (by kernel_rfl) (by kernel_rfl) (Tells.load_box (i := 0) (b := b32) (o := 0) (agg := true) (by rfl) ag25 (by kernel_rfl) (fun h => by cases h) (Nat.le_of_ble_eq_true rfl) (v := .agg #[.int .i64 8, .int .i64 0, .slice none 0 0, .slice (some ⟨b29, 0, none⟩) ([(⟨5, t18, ([] : List ByteArray), ([] : List T25)⟩ : T25), (⟨6, t18, ([] : List ByteArray), ([] : List T25)⟩ : T25)] : List T25).length 2]) (by kernel_rfl)) ?_
                refine WA.tellD [] (i := 44) (m := 6) (b' := 35184372088831) (by kernel_rfl) (NoPanic.then (NoPanic.body)) Under.refl hS (by kernel_rfl) (op := .load 31 (.tmp 3)) (ty := 31) (d := some 84) (g := some (42, true)) (by kernel_rfl) (by kernel_rfl) (by kernel_rfl) (Tells.load_box (i := 7) (b := b1) (o := 0) (agg := true) (by rfl) ag31 (by kernel_rfl) (fun h => by cases h) (Nat.le_of_ble_eq_true rfl) (v := .agg #[.int .i64 a0.f0, .int .i64 a0.f1, .int .i64 a0.f2, .int .i64 a0.f3, .string a0.f4]) (by kernel_rfl)) ?_
                rw [Option.bind_eq_some_iff] at h
                obtain ⟨t56, ht57, h⟩ := h
                refine WA.op (i := 45) (m := 5) (b' := 70368744177663) (by kernel_rfl) hS (by kernel_rfl) (op := .call { callee := (.value (.func 12)), args := #[(.tmp 83), (.tmp 84)], argTypes := #[25, 31] }) (ty := 4) (d := some 85) (g := some (42, true)) (by kernel_rfl) (by kernel_rfl) (by kernel_rfl) (Does.call (Φ := fun v' G' Γ' => v' = .bool t56 ∧ G = G' ∧ [(b32, .cells #[.int .i64 8, .int .i64 0, .slice none 0 0, .slice (some ⟨b29, 0, none⟩) ([(⟨5, t18, ([] : List ByteArray), ([] : List T25)⟩ : T25), (⟨6, t18, ([] : List ByteArray), ([] : List T25)⟩ : T25)] : List T25).length 2] 25 (0, 0))] :: [(b29, .cells #[.int .i64 5, .int .i64 t18, .slice none 0 0, .slice none 0 0, .int .i64 6, .int .i64 t18, .slice none 0 0, .slice none 0 0] 25 (0, 0))] :: [(b28, .cells #[.int .i64 7, .int .i64 0, .slice none 0 0, .slice (some ⟨b25, 0, none⟩) ([(⟨5, t18, ([] : List ByteArray), ([] : List T25)⟩ : T25), (⟨6, t18, ([] : List ByteArray), ([] : List T25)⟩ : T25)] : List T25).length 2] 25 (0, 0))] :: [(b25, .cells #[.int .i64 5, .int .i64 t18, .slice none 0 0, .slice none 0 0, .int .i64 6, .int .i64 t18, .slice none 0 0, .slice none 0 0] 25 (0, 0))] :: [(b24, .cells #[.int .i64 6, .int .i64 t18, .slice none 0 0, .slice none 0 0] 25 (0, 0))] :: [(b23, .cells #[.int .i64 5, .int .i64 t18, .slice none 0 0, .slice none 0 0] 25 (0, 0))] :: [(b22, .cells #[.int .i64 4, .int .i64 t14, .slice none 0 0, .slice none 0 0] 25 (0, 0))] :: [(b1, .cells #[.int .i64 a0.f0, .int .i64 a0.f1, .int .i64 a0.f2, .int .i64 a0.f3, .string a0.f4] 31 (0, 0))] :: Γ = Γ') (f := 12) (args := [.agg #[.int .i64 8, .int .i64 0, .slice none 0 0, .slice (some ⟨b29, 0, none⟩) ([(⟨5, t18, ([] : List ByteArray), ([] : List T25)⟩ : T25), (⟨6, t18, ([] : List ByteArray), ([] : List T25)⟩ : T25)] : List T25).length 2], .agg #[.int .i64 a0.f0, .int .i64 a0.f1, .int .i64 a0.f2, .int .i64 a0.f3, .string a0.f4]]) (by kernel_rfl) (fun W hI => (Calls.lendN (Φ := fun v' N => v' = .bool t56 ∧ N = []) (H := []) (i := 1) rfl hI (fun _ e l60 nl60 hI => by subst e; exact (((deem_Holds_calls (HT.mono l60) k (⟨8, 0, ([] : List ByteArray), ([(⟨5, t18, ([] : List ByteArray), ([] : List T25)⟩ : T25), (⟨6, t18, ([] : List ByteArray), ([] : List T25)⟩ : T25)] : List T25)⟩ : T25) a0 none 0 (Rd.nil _ _ _ _) (some ⟨b29, 0, none⟩) 2 (Ho31.rdN l60 nl60) t56 ht57 hI)).mono fun _ _ hr => by obtain ⟨_, _, _, rfl, hd, hI⟩ := hr; obtain ⟨rfl, rfl, rfl⟩ := hd; exact ⟨_, _, _, rfl, ⟨[], ⟨rfl, rfl⟩, rfl, rfl⟩, hI⟩))).mono fun _ _ hr => by obtain ⟨_, _, _, rfl, ⟨_, hd, rfl, rfl⟩, hI⟩ := hr; obtain ⟨rfl, rfl⟩ := hd; exact ⟨_, _, _, rfl, ⟨rfl, rfl, rfl⟩, hI⟩)) ?_
                rintro _ _ _ ⟨rfl, rfl, rfl⟩
                refine ⟨_, _, Under.refl, Under.refl, ?_⟩
                refine WA.pure [46, 47] [87] (m := 3) (b' := 281474976710655) (L' := [(87, .bool t56)]) (by kernel_rfl) (NoPanic.then (NoPanic.body)) Under.refl hS (by kernel_rfl) ?_
                refine WA.split 87 (b := t56) (by kernel_rfl) (fun hc => ?_) (fun hc => ?_)
                · replace hc := hc
                  rw [if_pos hc] at h
                  have hc61 := hc
                  clear hc
                  rw [Option.bind_eq_some_iff] at h
                  obtain ⟨t62, ht63, h⟩ := h
                  refine WA.op (i := 48) (m := 2) (b' := 562949953421311) (by kernel_rfl) hS (by kernel_rfl) (op := .call { callee := (.value (.func 11)), args := #[], argTypes := #[] }) (ty := 4) (d := some 88) (g := some (47, true)) (by kernel_rfl) (by kernel_rfl) (by kernel_rfl) (Does.call (f := 11) (args := []) (by kernel_rfl) (fun W hI => (grapevinelaw15_awake_calls HT k   t62 ht63 hI))) ?_
                  rintro _ _ _ ⟨rfl, rfl, rfl⟩
                  refine ⟨_, _, Under.refl, Under.refl, ?_⟩
                  refine WA.pure [49, 50] [6] (m := 0) (b' := 2251799813685247) (L' := [(6, .bool t62)]) (by kernel_rfl) (NoPanic.then (NoPanic.body)) Under.refl hS (by kernel_rfl) ?_
                  refine WA.done hS (by kernel_rfl) ?_
                  refine QP.pick [6] ?_
                  refine QP.dropAt 7 ?_
                  refine QP.dropAt 6 ?_
                  refine QP.dropAt 5 ?_
                  refine QP.dropAt 4 ?_
                  refine QP.dropAt 3 ?_
                  refine QP.dropAt 2 ?_
                  refine QP.dropAt 1 ?_
                  refine QP.dropAt 0 ?_
                  refine QP.pick [6] ?_
                  exact QP.meet ⟨_, Option.some.inj h, rfl, rfl, rfl⟩
                · replace hc := (Bool.eq_false_iff.1 hc)
                  rw [if_neg hc] at h
                  have hc61 := hc
                  clear hc
                  refine WA.pure [48, 49, 50] [6] (m := 0) (b' := 2251799813685247) (L' := [(6, .bool false)]) (by kernel_rfl) (NoPanic.then (NoPanic.body)) Under.refl hS (by kernel_rfl) ?_
                  refine WA.done hS (by kernel_rfl) ?_
                  refine QP.pick [6] ?_
                  refine QP.dropAt 7 ?_
                  refine QP.dropAt 6 ?_
                  refine QP.dropAt 5 ?_
                  refine QP.dropAt 4 ?_
                  refine QP.dropAt 3 ?_
                  refine QP.dropAt 2 ?_
                  refine QP.dropAt 1 ?_
                  refine QP.dropAt 0 ?_
                  refine QP.pick [6] ?_
                  exact QP.meet ⟨_, Option.some.inj h, rfl, rfl, rfl⟩
              · replace hc := (Bool.eq_false_iff.1 hc)
                rw [if_neg hc] at h
                have hc55 := hc
                clear hc
                refine WA.pure [43, 44, 45, 46, 47, 48, 49, 50] [6] (m := 0) (b' := 2251799813685247) (L' := [(6, .bool false)]) (by kernel_rfl) (NoPanic.then (NoPanic.body)) Under.refl hS (by kernel_rfl) ?_
                refine WA.done hS (by kernel_rfl) ?_
                refine QP.pick [6] ?_
                refine QP.dropAt 7 ?_
                refine QP.dropAt 6 ?_
                refine QP.dropAt 5 ?_
                refine QP.dropAt 4 ?_
                refine QP.dropAt 3 ?_
                refine QP.dropAt 2 ?_
                refine QP.dropAt 1 ?_
                refine QP.dropAt 0 ?_
                refine QP.pick [6] ?_
                exact QP.meet ⟨_, Option.some.inj h, rfl, rfl, rfl⟩
            · replace hc := (Bool.eq_false_iff.1 hc)
              rw [if_neg hc] at h
              have hc49 := hc
              clear hc
              refine WA.pure [32, 33, 34, 35, 36, 37, 38, 39, 40, 41, 42, 43, 44, 45, 46, 47, 48, 49, 50] [6] (m := 0) (b' := 2251799813685247) (L' := [(6, .bool false)]) (by kernel_rfl) (NoPanic.then (NoPanic.body)) Under.refl hS (by kernel_rfl) ?_
              refine WA.done hS (by kernel_rfl) ?_
              refine QP.pick [6] ?_
              refine QP.dropAt 7 ?_
              refine QP.dropAt 6 ?_
              refine QP.dropAt 5 ?_
              refine QP.dropAt 4 ?_
              refine QP.dropAt 3 ?_
              refine QP.dropAt 2 ?_
              refine QP.dropAt 1 ?_
              refine QP.dropAt 0 ?_
              refine QP.pick [6] ?_
              exact QP.meet ⟨_, Option.some.inj h, rfl, rfl, rfl⟩
          · replace hc := (Bool.eq_false_iff.1 hc)
            rw [if_neg hc] at h
            have hc44 := hc
            clear hc
            refine WA.pure [21, 22, 23, 24, 25, 26, 27, 28, 29, 30, 31, 32, 33, 34, 35, 36, 37, 38, 39, 40, 41, 42, 43, 44, 45, 46, 47, 48, 49, 50] [6] (m := 0) (b' := 2251799813685247) (L' := [(6, .bool false)]) (by kernel_rfl) (NoPanic.then (NoPanic.body)) Under.refl hS (by kernel_rfl) ?_
            refine WA.done hS (by kernel_rfl) ?_
            refine QP.pick [6] ?_
            refine QP.dropAt 7 ?_
            refine QP.dropAt 6 ?_
            refine QP.dropAt 5 ?_
            refine QP.dropAt 4 ?_
            refine QP.dropAt 3 ?_
            refine QP.dropAt 2 ?_
            refine QP.dropAt 1 ?_
            refine QP.dropAt 0 ?_
            refine QP.pick [6] ?_
            exact QP.meet ⟨_, Option.some.inj h, rfl, rfl, rfl⟩
        · replace hc := (Bool.eq_false_iff.1 hc)
          rw [if_neg hc] at h
          have hc39 := hc
          clear hc
          refine WA.pure [10, 11, 12, 13, 14, 15, 16, 17, 18, 19, 20, 21, 22, 23, 24, 25, 26, 27, 28, 29, 30, 31, 32, 33, 34, 35, 36, 37, 38, 39, 40, 41, 42, 43, 44, 45, 46, 47, 48, 49, 50] [6] (m := 0) (b' := 2251799813685247) (L' := [(6, .bool false)]) (by kernel_rfl) (NoPanic.then (NoPanic.body)) Under.refl hS (by kernel_rfl) ?_
          refine WA.done hS (by kernel_rfl) ?_
          refine QP.pick [6] ?_
          refine QP.dropAt 7 ?_
          refine QP.dropAt 6 ?_
          refine QP.dropAt 5 ?_
          refine QP.dropAt 4 ?_
          refine QP.dropAt 3 ?_
          refine QP.dropAt 2 ?_
          refine QP.dropAt 1 ?_
          refine QP.dropAt 0 ?_
          refine QP.pick [6] ?_
          exact QP.meet ⟨_, Option.some.inj h, rfl, rfl, rfl⟩
      · rintro _ _ _ ⟨s33, rfl, rfl, rfl, rfl⟩
        clear h
        replace h := hk34
        refine WP.ret ?_
        obtain rfl := Option.some.inj h
        exact QP.returned [6] [.bool s33] _ (by kernel_rfl) (by kernel_rfl) (by kernel_rfl) (fun W hI => ⟨_, _, _, rfl, ⟨rfl, rfl, rfl⟩, hI⟩)
/-- The plain law. -/
def DeemFilters_Pure : Prop := ∀ (a0 : T31) (a1 : Int) (a2 : Int), ((Lit.int .i64 a0.f0).wf = true ∧ (Lit.int .i64 a0.f1).wf = true ∧ (Lit.int .i64 a0.f2).wf = true ∧ (Lit.int .i64 a0.f3).wf = true ∧ a0.f4.size ≤ maxLen) → (Lit.int .i64 a1).wf = true → (Lit.int .i64 a2).wf = true → ∃ k, grapevinelaw15_DeemFilters k a0 a1 a2 = some true
end Go.Proofs.YtbphlohiealbeaaDoor.Gf
