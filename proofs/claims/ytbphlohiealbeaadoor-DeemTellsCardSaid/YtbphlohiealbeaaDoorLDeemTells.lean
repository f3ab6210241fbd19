/- Walks of Go functions: what each tells, as a plain Lean function, and that the Go code comes to it. Written by gg.py of this repo. -/
import Derived.Test.YtbphlohiealbeaaDoorT
import Derived.Test.YtbphlohiealbeaaDoorF1
import Derived.Test.YtbphlohiealbeaaDoorF2
import Derived.Test.YtbphlohiealbeaaDoorF5
namespace Go.Proofs.YtbphlohiealbeaaDoor.Gf
open Go Go.Gg
set_option maxRecDepth 100000
set_option linter.unusedVariables false
set_option linter.unusedSimpArgs false

/-! ### grapevine/grapevinelaw15.DeemTells: function 3 -/
def grapevinelaw15_DeemTells (k : Nat) (a0 : T25) (a1 : T31) (l2 : List T45) (l3 : List ByteArray) : Option Bool := (((grapevinelaw0_GreatAsk k a0).bind fun t5 => (if t5 = true then some true else (if (a1.f4.size : Int) > 300 then some true else (if (l2.length : Int) > 60 then some true else ((grapevinelaw0_GreatTexts k l3 20 100).bind fun t12 => some t12))))).bind fun s3 => (if s3 = true then ((grapevinelaw15_awake k ).bind fun t17 => some t17) else (((deem_Holds k a0 a1).bind fun t23 => ((grapevineref15_Holds k a0 a1).bind fun t27 => (if (t23 == t27) = true then ((deem_Phrase k l2 l3).bind fun t32 => ((grapevineref15_Phrase k l2 l3).bind fun t36 => (if (t32 == t36) = true then ((grapevinelaw15_awake k ).bind fun t41 => some t41) else some false))) else some false))).bind fun s21 => some s21)))
set_option maxHeartbeats 4000000 in
theorem grapevinelaw15_DeemTells_calls {B : World} {G : GMap} {Γ : List Chunk} {W : World} (HT : Tabs B G) (k : Nat) (a0 : T25) (a1 : T31) (l2 : List T45) (l3 : List ByteArray) (Aa0_f2 : Option Addr) (ca0_f2 : Nat) (Ha0_f2 : Rd kStr G Aa0_f2 ca0_f2 a0.f2) (Aa0_f3 : Option Addr) (ca0_f3 : Nat) (Ha0_f3 : Rd k25 G Aa0_f3 ca0_f3 a0.f3) (Al2 : Option Addr) (cl2 : Nat) (Hl2 : Rd k45 G Al2 cl2 l2) (Al3 : Option Addr) (cl3 : Nat) (Hl3 : Rd kStr G Al3 cl3 l3) (r : Bool) (h : grapevinelaw15_DeemTells k a0 a1 l2 l3 = some r) (hI : Inv B G (Γ) W) :
    Calls Tryd.prog 3 [.agg #[.int .i64 a0.f0, .int .i64 a0.f1, .slice Aa0_f2 a0.f2.length ca0_f2, .slice Aa0_f3 a0.f3.length ca0_f3], .agg #[.int .i64 a1.f0, .int .i64 a1.f1, .int .i64 a1.f2, .int .i64 a1.f3, .string a1.f4], .slice Al2 l2.length cl2, .slice Al3 l3.length cl3].toArray W (Ret B (fun v G' Γ' => v = .bool r ∧ G = G' ∧ Γ = Γ')) := by
  refine calls_WP (Γ := Γ) (G := G) (B := B) Tryd.func3 rfl (by kernel_rfl) ?_ hI
  clear hI
  unfold grapevinelaw15_DeemTells at h
  refine WP.seqR ?_
  refine WL.op (op := .box 25 (.tmp 0)) (ty := 0) (d := some 4) (g := none) (by kernel_rfl) (by kernel_rfl) (by kernel_rfl) (Does.new (o := .cells #[.int .i64 a0.f0, .int .i64 a0.f1, .slice Aa0_f2 a0.f2.length ca0_f2, .slice Aa0_f3 a0.f3.length ca0_f3] 25 (0, 0)) (v := fun r => .pointer (some ⟨r, 0, none⟩)) (fun r => by kernel_rfl)) ?_
  rintro _ _ _ ⟨b1, rfl, rfl, rfl⟩
  refine WL.op (op := .box 31 (.tmp 1)) (ty := 0) (d := some 5) (g := none) (by kernel_rfl) (by kernel_rfl) (by kernel_rfl) (Does.new (o := .cells #[.int .i64 a1.f0, .int .i64 a1.f1, .int .i64 a1.f2, .int .i64 a1.f3, .string a1.f4] 31 (0, 0)) (v := fun r => .pointer (some ⟨r, 0, none⟩)) (fun r => by kernel_rfl)) ?_
  rintro _ _ _ ⟨b2, rfl, rfl, rfl⟩
  refine WL.restQ 2 [2, 3, 4, 5] (L' := [(2, .slice Al2 l2.length cl2), (3, .slice Al3 l3.length cl3), (4, .pointer (some ⟨b1, 0, none⟩)), (5, .pointer (some ⟨b2, 0, none⟩))]) (by kernel_rfl) ?_
  refine WP.seq ?_
  rw [Option.bind_eq_some_iff] at h
  obtain ⟨os3, h, hk4⟩ := h
  refine WP.cut (fun L' G' Γ' => ∃ s3 : Bool, s3 = os3 ∧ L' = [(2, .slice Al2 l2.length cl2), (3, .slice Al3 l3.length cl3), (4, .pointer (some ⟨b1, 0, none⟩)), (5, .pointer (some ⟨b2, 0, none⟩)), (25, .bool s3)] ∧ G = G' ∧ [(b2, .cells #[.int .i64 a1.f0, .int .i64 a1.f1, .int .i64 a1.f2, .int .i64 a1.f3, .string a1.f4] 31 (0, 0))] :: [(b1, .cells #[.int .i64 a0.f0, .int .i64 a0.f1, .slice Aa0_f2 a0.f2.length ca0_f2, .slice Aa0_f3 a0.f3.length ca0_f3] 25 (0, 0))] :: Γ = Γ') ?_ ?_
  · clear hk4
    refine WP.region ?_
    refine WL.tell (op := .load 25 (.tmp 4)) (ty := 25) (d := some 9) (g := none) (by kernel_rfl) (by kernel_rfl) (by kernel_rfl) (Tells.load_box (i := 1) (b := b1) (o := 0) (agg := true) (by rfl) ag25 (by kernel_rfl) (fun h => by cases h) (Nat.le_of_ble_eq_true rfl) (v := .agg #[.int .i64 a0.f0, .int .i64 a0.f1, .slice Aa0_f2 a0.f2.length ca0_f2, .slice Aa0_f3 a0.f3.length ca0_f3]) (by kernel_rfl)) ?_
    rw [Option.bind_eq_some_iff] at h
    obtain ⟨t5, ht6, h⟩ := h
    refine WL.op (op := .call { callee := (.value (.func 9)), args := #[(.tmp 9)], argTypes := #[25] }) (ty := 4) (d := some 10) (g := none) (by kernel_rfl) (by kernel_rfl) (by kernel_rfl) (Does.call (f := 9) (args := [.agg #[.int .i64 a0.f0, .int .i64 a0.f1, .slice Aa0_f2 a0.f2.length ca0_f2, .slice Aa0_f3 a0.f3.length ca0_f3]]) (by kernel_rfl) (fun W hI => (grapevinelaw0_GreatAsk_calls k a0 Aa0_f2 ca0_f2 Ha0_f2 Aa0_f3 ca0_f3 Ha0_f3 t5 ht6 hI))) ?_
    rintro _ _ _ ⟨rfl, rfl, rfl⟩
    refine WL.pure 2 3 [2, 3, 4, 5, 11] (L' := [(2, .slice Al2 l2.length cl2), (3, .slice Al3 l3.length cl3), (4, .pointer (some ⟨b1, 0, none⟩)), (5, .pointer (some ⟨b2, 0, none⟩)), (11, .bool t5)]) (by kernel_rfl) (by decide) ?_
    refine WL.split 11 (b := t5) (by kernel_rfl) (fun hc => ?_) (fun hc => ?_)
    · replace hc := hc
      rw [if_pos hc] at h
      have hc9 := hc
      clear hc
      refine WL.rest 3 [2, 3, 4, 5, 25] (L' := [(2, .slice Al2 l2.length cl2), (3, .slice Al3 l3.length cl3), (4, .pointer (some ⟨b1, 0, none⟩)), (5, .pointer (some ⟨b2, 0, none⟩)), (25, .bool true)]) (by kernel_rfl) ?_
      refine QP.pick [2, 3, 4, 5, 25] ?_
      exact QP.meet ⟨_, Option.some.inj h, rfl, rfl, rfl⟩
    · replace hc := (Bool.eq_false_iff.1 hc)
      rw [if_neg hc] at h
      have hc9 := hc
      clear hc
      refine WL.pure 3 4 [2, 3, 4, 5, 11, 12] (L' := [(2, .slice Al2 l2.length cl2), (3, .slice Al3 l3.length cl3), (4, .pointer (some ⟨b1, 0, none⟩)), (5, .pointer (some ⟨b2, 0, none⟩)), (11, .bool false), (12, .pointer (some ⟨b2, 4, none⟩))]) (by kernel_rfl) (by decide) ?_
      refine WL.tell (op := .load 9 (.tmp 12)) (ty := 9) (d := some 13) (g := some (2, false)) (by kernel_rfl) (by kernel_rfl) (by kernel_rfl) (Tells.load_box (i := 0) (b := b2) (o := 4) (agg := false) (by rfl) ag9 (by kernel_rfl) (fun _ => rfl) (Nat.le_of_ble_eq_true rfl) (v := .string a1.f4) (by kernel_rfl)) ?_
      refine WL.pure 5 9 [2, 3, 4, 5, 17] (L' := [(2, .slice Al2 l2.length cl2), (3, .slice Al3 l3.length cl3), (4, .pointer (some ⟨b1, 0, none⟩)), (5, .pointer (some ⟨b2, 0, none⟩)), (17, .bool (decide ((a1.f4.size : Int) > 300)))]) (by kernel_rfl) (by decide) ?_
      refine WL.split 17 (b := decide ((a1.f4.size : Int) > 300)) (by kernel_rfl) (fun hc => ?_) (fun hc => ?_)
      · replace hc := of_decide_eq_true hc
        rw [if_pos hc] at h
        have hc10 := hc
        clear hc
        refine WL.rest 9 [2, 3, 4, 5, 25] (L' := [(2, .slice Al2 l2.length cl2), (3, .slice Al3 l3.length cl3), (4, .pointer (some ⟨b1, 0, none⟩)), (5, .pointer (some ⟨b2, 0, none⟩)), (25, .bool true)]) (by kernel_rfl) ?_
        refine QP.pick [2, 3, 4, 5, 25] ?_
        exact QP.meet ⟨_, Option.some.inj h, rfl, rfl, rfl⟩
      · replace hc := of_decide_eq_false hc
        rw [if_neg hc] at h
        have hc10 := hc
        clear hc
        refine WL.pure 9 14 [2, 3, 4, 5, 22] (L' := [(2, .slice Al2 l2.length cl2), (3, .slice Al3 l3.length cl3), (4, .pointer (some ⟨b1, 0, none⟩)), (5, .pointer (some ⟨b2, 0, none⟩)), (22, .bool (decide ((l2.length : Int) > 60)))]) (by kernel_rfl) (by decide) ?_
        refine WL.split 22 (b := decide ((l2.length : Int) > 60)) (by kernel_rfl) (fun hc => ?_) (fun hc => ?_)
        · replace hc := of_decide_eq_true hc
          rw [if_pos hc] at h
          have hc11 := hc
          clear hc
          refine WL.rest 14 [2, 3, 4, 5, 25] (L' := [(2, .slice Al2 l2.length cl2), (3, .slice Al3 l3.length cl3), (4, .pointer (some ⟨b1, 0, none⟩)), (5, .pointer (some ⟨b2, 0, none⟩)), (25, .bool true)]) (by kernel_rfl) ?_
          refine QP.pick [2, 3, 4, 5, 25] ?_
          exact QP.meet ⟨_, Option.some.inj h, rfl, rfl, rfl⟩
        · replace hc := of_decide_eq_false hc
          rw [if_neg hc] at h
          have hc11 := hc
          clear hc
          refine WL.pure 14 15 [2, 3, 4, 5, 22, 23] (L' := [(2, .slice Al2 l2.length cl2), (3, .slice Al3 l3.length cl3), (4, .pointer (some ⟨b1, 0, none⟩)), (5, .pointer (some ⟨b2, 0, none⟩)), (22, .bool false), (23, .slice Al3 l3.length cl3)]) (by kernel_rfl) (by decide) ?_
          rw [Option.bind_eq_some_iff] at h
          obtain ⟨t12, ht13, h⟩ := h
          refine WL.op (op := .call { callee := (.value (.func 10)), args := #[(.tmp 23), (.const (.int .i64 20)), (.const (.int .i64 100))], argTypes := #[22, 3, 3] }) (ty := 4) (d := some 24) (g := some (13, false)) (by kernel_rfl) (by kernel_rfl) (by kernel_rfl) (Does.call (f := 10) (args := [.slice Al3 l3.length cl3, .int .i64 20, .int .i64 100]) (by kernel_rfl) (fun W hI => (grapevinelaw0_GreatTexts_calls k l3 20 100 Al3 cl3 Hl3 t12 ht13 hI))) ?_
          rintro _ _ _ ⟨rfl, rfl, rfl⟩
          refine WL.rest 16 [2, 3, 4, 5, 25] (L' := [(2, .slice Al2 l2.length cl2), (3, .slice Al3 l3.length cl3), (4, .pointer (some ⟨b1, 0, none⟩)), (5, .pointer (some ⟨b2, 0, none⟩)), (25, .bool t12)]) (by kernel_rfl) ?_
          refine QP.pick [2, 3, 4, 5, 25] ?_
          exact QP.meet ⟨_, Option.some.inj h, rfl, rfl, rfl⟩
  · rintro _ _ _ ⟨s3, rfl, rfl, rfl, rfl⟩
    clear h
    replace h := hk4
    refine WP.cond (b := s3) (by kernel_rfl) (fun hc => ?_) (fun hc => ?_)
    · replace hc := hc
      rw [if_pos hc] at h
      have hc16 := hc
      clear hc
      refine WP.seqR ?_
      rw [Option.bind_eq_some_iff] at h
      obtain ⟨t17, ht18, h⟩ := h
      refine WL.op (op := .call { callee := (.value (.func 11)), args := #[], argTypes := #[] }) (ty := 4) (d := some 26) (g := none) (by kernel_rfl) (by kernel_rfl) (by kernel_rfl) (Does.call (f := 11) (args := []) (by kernel_rfl) (fun W hI => (grapevinelaw15_awake_calls HT k   t17 ht18 hI))) ?_
      rintro _ _ _ ⟨rfl, rfl, rfl⟩
      refine WL.restQ 1 [8] (L' := [(8, .bool t17)]) (by kernel_rfl) ?_
      refine WP.dropAt 1 ?_
      refine WP.dropAt 0 ?_
      refine WP.ret ?_
      refine QP.thenR ?_
      obtain rfl := Option.some.inj h
      exact QP.returned [8] [.bool t17] _ (by kernel_rfl) (by kernel_rfl) (by kernel_rfl) (fun W hI => ⟨_, _, _, rfl, ⟨rfl, rfl, rfl⟩, hI⟩)
    · replace hc := (Bool.eq_false_iff.1 hc)
      rw [if_neg hc] at h
      have hc16 := hc
      clear hc
      refine WP.skip ?_
      refine QP.next ?_
      refine WP.pick [2, 3, 4, 5] ?_
      rw [Option.bind_eq_some_iff] at h
      obtain ⟨os21, h, hk22⟩ := h
      refine WP.cut (fun L' G' Γ' => ∃ s21 : Bool, s21 = os21 ∧ L' = [(8, .bool s21)] ∧ G = G' ∧ Γ = Γ') ?_ ?_
      · clear hk22
        skip
        refine WP.any (N := 20) (S := [⟨some 27, [4], []⟩, ⟨some 28, [5], []⟩, ⟨some 29, [27, 28], [0, 1]⟩, ⟨some 30, [4], []⟩, ⟨some 31, [5], []⟩, ⟨some 32, [30, 31], [2, 3, 4]⟩, ⟨some 33, [29, 32], [2, 5]⟩, ⟨some 34, [33], [5, 6]⟩, ⟨some 35, [2, 34], [7]⟩, ⟨some 36, [3, 34], [7]⟩, ⟨some 37, [34, 35, 36], [7, 8, 9]⟩, ⟨some 38, [2, 34], [7]⟩, ⟨some 39, [3, 34], [7]⟩, ⟨some 40, [34, 38, 39], [7, 10, 11, 12]⟩, ⟨some 41, [34, 37, 40], [7, 10, 13]⟩, ⟨some 42, [34, 41], [7, 14]⟩, ⟨some 43, [42], [13, 15]⟩, ⟨some 44, [43], [16]⟩, ⟨some 45, [43, 44], [16, 17]⟩, ⟨some 8, [45], [0, 1, 2, 3, 4, 5, 6, 7, 8, 9, 10, 11, 12, 13, 14, 15, 16, 17, 18]⟩]) (kw := 20) (G0 := G) (Γ0 := [(b2, .cells #[.int .i64 a1.f0, .int .i64 a1.f1, .int .i64 a1.f2, .int .i64 a1.f3, .string a1.f4] 31 (0, 0))] :: [(b1, .cells #[.int .i64 a0.f0, .int .i64 a0.f1, .slice Aa0_f2 a0.f2.length ca0_f2, .slice Aa0_f3 a0.f3.length ca0_f3] 25 (0, 0))] :: Γ) mo (by kernel_rfl) (fun hS => ?_)
        refine WA.tellD [] (i := 0) (m := 19) (b' := 1) (by kernel_rfl) (NoPanic.then (NoPanic.body)) Under.refl hS (by kernel_rfl) (op := .load 25 (.tmp 4)) (ty := 25) (d := some 27) (g := none) (by kernel_rfl) (by kernel_rfl) (by kernel_rfl) (Tells.load_box (i := 1) (b := b1) (o := 0) (agg := true) (by rfl) ag25 (by kernel_rfl) (fun h => by cases h) (Nat.le_of_ble_eq_true rfl) (v := .agg #[.int .i64 a0.f0, .int .i64 a0.f1, .slice Aa0_f2 a0.f2.length ca0_f2, .slice Aa0_f3 a0.f3.length ca0_f3]) (by kernel_rfl)) ?_
        refine WA.tellD [] (i := 1) (m := 18) (b' := 3) (by kernel_rfl) (NoPanic.then (NoPanic.body)) Under.refl hS (by kernel_rfl) (op := .load 31 (.tmp 5)) (ty := 31) (d := some 28) (g := none) (by kernel_rfl) (by kernel_rfl) (by kernel_rfl) (Tells.load_box (i := 0) (b := b2) (o := 0) (agg := true) (by rfl) ag31 (by kernel_rfl) (fun h => by cases h) (Nat.le_of_ble_eq_true rfl) (v := .agg #[.int .i64 a1.f0, .int .i64 a1.f1, .int .i64 a1.f2, .int .i64 a1.f3, .string a1.f4]) (by kernel_rfl)) ?_
        refine WA.tellD [] (i := 3) (m := 17) (b' := 11) (by kernel_rfl) (NoPanic.then (NoPanic.body)) Under.refl hS (by kernel_rfl) (op := .load 25 (.tmp 4)) (ty := 25) (d := some 30) (g := none) (by kernel_rfl) (by kernel_rfl) (by kernel_rfl) (Tells.load_box (i := 1) (b := b1) (o := 0) (agg := true) (by rfl) ag25 (by kernel_rfl) (fun h => by cases h) (Nat.le_of_ble_eq_true rfl) (v := .agg #[.int .i64 a0.f0, .int .i64 a0.f1, .slice Aa0_f2 a0.f2.length ca0_f2, .slice Aa0_f3 a0.f3.length ca0_f3]) (by kernel_rfl)) ?_
        refine WA.tellD [] (i := 4) (m := 16) (b' := 27) (by kernel_rfl) (NoPanic.then (NoPanic.body)) Under.refl hS (by kernel_rfl) (op := .load 31 (.tmp 5)) (ty := 31) (d := some 31) (g := none) (by kernel_rfl) (by kernel_rfl) (by kernel_rfl) (Tells.load_box (i := 0) (b := b2) (o := 0) (agg := true) (by rfl) ag31 (by kernel_rfl) (fun h => by cases h) (Nat.le_of_ble_eq_true rfl) (v := .agg #[.int .i64 a1.f0, .int .i64 a1.f1, .int .i64 a1.f2, .int .i64 a1.f3, .string a1.f4]) (by kernel_rfl)) ?_
        rw [Option.bind_eq_some_iff] at h
        obtain ⟨t23, ht24, h⟩ := h
        refine WA.op (i := 2) (m := 15) (b' := 31) (by kernel_rfl) hS (by kernel_rfl) (op := .call { callee := (.value (.func 12)), args := #[(.tmp 27), (.tmp 28)], argTypes := #[25, 31] }) (ty := 4) (d := some 29) (g := none) (by kernel_rfl) (by kernel_rfl) (by kernel_rfl) (Does.call (f := 12) (args := [.agg #[.int .i64 a0.f0, .int .i64 a0.f1, .slice Aa0_f2 a0.f2.length ca0_f2, .slice Aa0_f3 a0.f3.length ca0_f3], .agg #[.int .i64 a1.f0, .int .i64 a1.f1, .int .i64 a1.f2, .int .i64 a1.f3, .string a1.f4]]) (by kernel_rfl) (fun W hI => (deem_Holds_calls HT k a0 a1 Aa0_f2 ca0_f2 Ha0_f2 Aa0_f3 ca0_f3 Ha0_f3 t23 ht24 hI))) ?_
        rintro _ _ _ ⟨rfl, rfl, rfl⟩
        refine ⟨_, _, Under.refl, Under.refl, ?_⟩
        rw [Option.bind_eq_some_iff] at h
        obtain ⟨t27, ht28, h⟩ := h
        refine WA.op (i := 5) (m := 14) (b' := 63) (by kernel_rfl) hS (by kernel_rfl) (op := .call { callee := (.value (.func 13)), args := #[(.tmp 30), (.tmp 31)], argTypes := #[25, 31] }) (ty := 4) (d := some 32) (g := none) (by kernel_rfl) (by kernel_rfl) (by kernel_rfl) (Does.call (f := 13) (args := [.agg #[.int .i64 a0.f0, .int .i64 a0.f1, .slice Aa0_f2 a0.f2.length ca0_f2, .slice Aa0_f3 a0.f3.length ca0_f3], .agg #[.int .i64 a1.f0, .int .i64 a1.f1, .int .i64 a1.f2, .int .i64 a1.f3, .string a1.f4]]) (by kernel_rfl) (fun W hI => (grapevineref15_Holds_calls HT k a0 a1 Aa0_f2 ca0_f2 Ha0_f2 Aa0_f3 ca0_f3 Ha0_f3 t27 ht28 hI))) ?_
        rintro _ _ _ ⟨rfl, rfl, rfl⟩
        refine ⟨_, _, Under.refl, Under.refl, ?_⟩
        refine WA.pure [6, 7] [2, 3, 34] (m := 12) (b' := 255) (L' := [(2, .slice Al2 l2.length cl2), (3, .slice Al3 l3.length cl3), (34, .bool (t23 == t27))]) (by kernel_rfl) (NoPanic.then (NoPanic.body)) Under.refl hS (by kernel_rfl) ?_
        refine WA.split 34 (b := (t23 == t27)) (by kernel_rfl) (fun hc => ?_) (fun hc => ?_)
        · replace hc := hc
          rw [if_pos hc] at h
          have hc31 := hc
          clear hc
          refine WA.pure [8, 9, 11, 12] [34, 35, 36, 38, 39] (m := 8) (b' := 7167) (L' := [(34, .bool true), (35, .slice Al2 l2.length cl2), (36, .slice Al3 l3.length cl3), (38, .slice Al2 l2.length cl2), (39, .slice Al3 l3.length cl3)]) (by kernel_rfl) (NoPanic.then (NoPanic.body)) Under.refl hS (by kernel_rfl) ?_
          rw [Option.bind_eq_some_iff] at h
          obtain ⟨t32, ht33, h⟩ := h
          refine WA.op (i := 10) (m := 7) (b' := 8191) (by kernel_rfl) hS (by kernel_rfl) (op := .call { callee := (.value (.func 14)), args := #[(.tmp 35), (.tmp 36)], argTypes := #[32, 22] }) (ty := 4) (d := some 37) (g := some (7, true)) (by kernel_rfl) (by kernel_rfl) (by kernel_rfl) (Does.call (f := 14) (args := [.slice Al2 l2.length cl2, .slice Al3 l3.length cl3]) (by kernel_rfl) (fun W hI => (deem_Phrase_calls k l2 l3 Al2 cl2 Hl2 Al3 cl3 Hl3 t32 ht33 hI))) ?_
          rintro _ _ _ ⟨rfl, rfl, rfl⟩
          refine ⟨_, _, Under.refl, Under.refl, ?_⟩
          rw [Option.bind_eq_some_iff] at h
          obtain ⟨t36, ht37, h⟩ := h
          refine WA.op (i := 13) (m := 6) (b' := 16383) (by kernel_rfl) hS (by kernel_rfl) (op := .call { callee := (.value (.func 15)), args := #[(.tmp 38), (.tmp 39)], argTypes := #[32, 22] }) (ty := 4) (d := some 40) (g := some (7, true)) (by kernel_rfl) (by kernel_rfl) (by kernel_rfl) (Does.call (f := 15) (args := [.slice Al2 l2.length cl2, .slice Al3 l3.length cl3]) (by kernel_rfl) (fun W hI => (grapevineref15_Phrase_calls k l2 l3 Al2 cl2 Hl2 Al3 cl3 Hl3 t36 ht37 hI))) ?_
          rintro _ _ _ ⟨rfl, rfl, rfl⟩
          refine ⟨_, _, Under.refl, Under.refl, ?_⟩
          refine WA.pure [14, 15, 16] [43] (m := 3) (b' := 131071) (L' := [(43, .bool (t32 == t36))]) (by kernel_rfl) (NoPanic.then (NoPanic.body)) Under.refl hS (by kernel_rfl) ?_
          refine WA.split 43 (b := (t32 == t36)) (by kernel_rfl) (fun hc => ?_) (fun hc => ?_)
          · replace hc := hc
            rw [if_pos hc] at h
            have hc40 := hc
            clear hc
            rw [Option.bind_eq_some_iff] at h
            obtain ⟨t41, ht42, h⟩ := h
            refine WA.op (i := 17) (m := 2) (b' := 262143) (by kernel_rfl) hS (by kernel_rfl) (op := .call { callee := (.value (.func 11)), args := #[], argTypes := #[] }) (ty := 4) (d := some 44) (g := some (16, true)) (by kernel_rfl) (by kernel_rfl) (by kernel_rfl) (Does.call (f := 11) (args := []) (by kernel_rfl) (fun W hI => (grapevinelaw15_awake_calls HT k   t41 ht42 hI))) ?_
            rintro _ _ _ ⟨rfl, rfl, rfl⟩
            refine ⟨_, _, Under.refl, Under.refl, ?_⟩
            refine WA.pure [18, 19] [8] (m := 0) (b' := 1048575) (L' := [(8, .bool t41)]) (by kernel_rfl) (NoPanic.then (NoPanic.body)) Under.refl hS (by kernel_rfl) ?_
            refine WA.done hS (by kernel_rfl) ?_
            refine QP.pick [8] ?_
            refine QP.dropAt 1 ?_
            refine QP.dropAt 0 ?_
            refine QP.pick [8] ?_
            exact QP.meet ⟨_, Option.some.inj h, rfl, rfl, rfl⟩
          · replace hc := (Bool.eq_false_iff.1 hc)
            rw [if_neg hc] at h
            have hc40 := hc
            clear hc
            refine WA.pure [17, 18, 19] [8] (m := 0) (b' := 1048575) (L' := [(8, .bool false)]) (by kernel_rfl) (NoPanic.then (NoPanic.body)) Under.refl hS (by kernel_rfl) ?_
            refine WA.done hS (by kernel_rfl) ?_
            refine QP.pick [8] ?_
            refine QP.dropAt 1 ?_
            refine QP.dropAt 0 ?_
            refine QP.pick [8] ?_
            exact QP.meet ⟨_, Option.some.inj h, rfl, rfl, rfl⟩
        · replace hc := (Bool.eq_false_iff.1 hc)
          rw [if_neg hc] at h
          have hc31 := hc
          clear hc
          refine WA.pure [8, 9, 10, 11, 12, 13, 14, 15, 16, 17, 18, 19] [8] (m := 0) (b' := 1048575) (L' := [(8, .bool false)]) (by kernel_rfl) (NoPanic.then (NoPanic.body)) Under.refl hS (by kernel_rfl) ?_
          refine WA.done hS (by kernel_rfl) ?_
          refine QP.pick [8] ?_
          refine QP.dropAt 1 ?_
          refine QP.dropAt 0 ?_
          refine QP.pick [8] ?_
          exact QP.meet ⟨_, Option.some.inj h, rfl, rfl, rfl⟩
      · rintro _ _ _ ⟨s21, rfl, rfl, rfl, rfl⟩
        clear h
        replace h := hk22
        refine WP.ret ?_
        obtain rfl := Option.some.inj h
        exact QP.returned [8] [.bool s21] _ (by kernel_rfl) (by kernel_rfl) (by kernel_rfl) (fun W hI => ⟨_, _, _, rfl, ⟨rfl, rfl, rfl⟩, hI⟩)
/-- The plain law. -/
def DeemTells_Pure : Prop := ∀ (a0 : T25) (a1 : T31) (l2 : List T45) (l3 : List ByteArray), Ok25 a0 → ((Lit.int .i64 a1.f0).wf = true ∧ (Lit.int .i64 a1.f1).wf = true ∧ (Lit.int .i64 a1.f2).wf = true ∧ (Lit.int .i64 a1.f3).wf = true ∧ a1.f4.size ≤ maxLen) → (l2.length ≤ maxLen ∧ ∀ z0 ∈ l2, (z0.f0.size ≤ maxLen ∧ (Lit.int .i64 z0.f1).wf = true)) → (l3.length ≤ maxLen ∧ ∀ z0 ∈ l3, z0.size ≤ maxLen) → ∃ k, grapevinelaw15_DeemTells k a0 a1 l2 l3 = some true
end Go.Proofs.YtbphlohiealbeaaDoor.Gf
