/- Walks of Go functions: what each tells, as a plain Lean function, and that the Go code comes to it. Written by gg.py of this repo. -/
import Derived.Test.YtbphlohiealbeaaDoorT
import Derived.Test.YtbphlohiealbeaaDoorF0
import Derived.Test.YtbphlohiealbeaaDoorF1
import Derived.Test.YtbphlohiealbeaaDoorF2
namespace Go.Proofs.YtbphlohiealbeaaDoor.Gf
open Go Go.Gg
set_option maxRecDepth 100000
set_option linter.unusedVariables false
set_option linter.unusedSimpArgs false

/-! ### grapevine/grapevinelaw15.DeemTexts: function 7 -/
def grapevinelaw15_DeemTexts (k : Nat) (a0 : T25) (a1 : T31) (a2 : T31) : Option Bool := (((grapevinelaw0_GreatAsk k a0).bind fun t6 => (if t6 = true then some true else (if (a1.f4.size : Int) > 300 then some true else ((ask_May k a0).bind fun t12 => (if (!t12) = true then some true else ((record_May a1).bind fun t17 => (if (!t17) = true then some true else ((record_May a2).bind fun t22 => some (!t22))))))))).bind fun s4 => (if s4 = true then ((grapevinelaw15_awake k ).bind fun t27 => some t27) else (((ask_May k (⟨7, 0, ([] : List ByteArray), ([(⟨5, 0, ([] : List ByteArray), ([] : List T25)⟩ : T25), a0] : List T25)⟩ : T25)).bind fun t38 => (if t38 = true then ((deem_Holds k (⟨7, 0, ([] : List ByteArray), ([(⟨5, 0, ([] : List ByteArray), ([] : List T25)⟩ : T25), a0] : List T25)⟩ : T25) a1).bind fun t44 => ((deem_Holds k a0 a1).bind fun t49 => some (!(t44 == t49)))) else some false)).bind fun s36 => (if s36 = true then some false else (((deem_Holds k (⟨5, 0, ([] : List ByteArray), ([] : List T25)⟩ : T25) a1).bind fun t56 => (if t56 = true then ((grapevinelaw15_filtered k a0).bind fun t61 => (if t61 = true then ((grapevinelaw15_awake k ).bind fun t66 => some t66) else ((deem_Holds k a0 a1).bind fun t70 => ((deem_Holds k a0 (⟨a2.f0, a2.f1, a2.f2, a2.f3, a1.f4⟩ : T31)).bind fun t74 => (if (t70 == t74) = true then ((grapevinelaw15_awake k ).bind fun t79 => some t79) else some false))))) else some false)).bind fun s54 => some s54)))))
set_option maxHeartbeats 4000000 in
theorem grapevinelaw15_DeemTexts_calls {B : World} {G : GMap} {Γ : List Chunk} {W : World} (HT : Tabs B G) (k : Nat) (a0 : T25) (a1 : T31) (a2 : T31) (Aa0_f2 : Option Addr) (ca0_f2 : Nat) (Ha0_f2 : Rd kStr G Aa0_f2 ca0_f2 a0.f2) (Aa0_f3 : Option Addr) (ca0_f3 : Nat) (Ha0_f3 : Rd k25 G Aa0_f3 ca0_f3 a0.f3) (r : Bool) (h : grapevinelaw15_DeemTexts k a0 a1 a2 = some r) (hI : Inv B G (Γ) W) :
    Calls Tryd.prog 7 [.agg #[.int .i64 a0.f0, .int .i64 a0.f1, .slice Aa0_f2 a0.f2.length ca0_f2, .slice Aa0_f3 a0.f3.length ca0_f3], .agg #[.int .i64 a1.f0, .int .i64 a1.f1, .int .i64 a1.f2, .int .i64 a1.f3, .string a1.f4], .agg #[.int .i64 a2.f0, .int .i64 a2.f1, .int .i64 a2.f2, .int .i64 a2.f3, .string a2.f4]].toArray W (Ret B (fun v G' Γ' => v = .bool r ∧ G = G' ∧ Γ = Γ')) := by
  refine calls_WP (Γ := Γ) (G := G) (B := B) Tryd.func7 rfl (by kernel_rfl) ?_ hI
  clear hI
  unfold grapevinelaw15_DeemTexts at h
  refine WP.seqR ?_
  refine WL.op (op := .box 25 (.tmp 0)) (ty := 0) (d := some 3) (g := none) (by kernel_rfl) (by kernel_rfl) (by kernel_rfl) (Does.new (o := .cells #[.int .i64 a0.f0, .int .i64 a0.f1, .slice Aa0_f2 a0.f2.length ca0_f2, .slice Aa0_f3 a0.f3.length ca0_f3] 25 (0, 0)) (v := fun r => .pointer (some ⟨r, 0, none⟩)) (fun r => by kernel_rfl)) ?_
  rintro _ _ _ ⟨b1, rfl, rfl, rfl⟩
  refine WL.op (op := .box 31 (.tmp 1)) (ty := 0) (d := some 4) (g := none) (by kernel_rfl) (by kernel_rfl) (by kernel_rfl) (Does.new (o := .cells #[.int .i64 a1.f0, .int .i64 a1.f1, .int .i64 a1.f2, .int .i64 a1.f3, .string a1.f4] 31 (0, 0)) (v := fun r => .pointer (some ⟨r, 0, none⟩)) (fun r => by kernel_rfl)) ?_
  rintro _ _ _ ⟨b2, rfl, rfl, rfl⟩
  refine WL.op (op := .box 31 (.tmp 2)) (ty := 0) (d := some 5) (g := none) (by kernel_rfl) (by kernel_rfl) (by kernel_rfl) (Does.new (o := .cells #[.int .i64 a2.f0, .int .i64 a2.f1, .int .i64 a2.f2, .int .i64 a2.f3, .string a2.f4] 31 (0, 0)) (v := fun r => .pointer (some ⟨r, 0, none⟩)) (fun r => by kernel_rfl)) ?_
  rintro _ _ _ ⟨b3, rfl, rfl, rfl⟩
  refine WL.restQ 3 [3, 4, 5] (L' := [(3, .pointer (some ⟨b1, 0, none⟩)), (4, .pointer (some ⟨b2, 0, none⟩)), (5, .pointer (some ⟨b3, 0, none⟩))]) (by kernel_rfl) ?_
  refine WP.seq ?_
  rw [Option.bind_eq_some_iff] at h
  obtain ⟨os4, h, hk5⟩ := h
  refine WP.cut (fun L' G' Γ' => ∃ s4 : Bool, s4 = os4 ∧ L' = [(3, .pointer (some ⟨b1, 0, none⟩)), (4, .pointer (some ⟨b2, 0, none⟩)), (5, .pointer (some ⟨b3, 0, none⟩)), (31, .bool s4)] ∧ G = G' ∧ [(b3, .cells #[.int .i64 a2.f0, .int .i64 a2.f1, .int .i64 a2.f2, .int .i64 a2.f3, .string a2.f4] 31 (0, 0))] :: [(b2, .cells #[.int .i64 a1.f0, .int .i64 a1.f1, .int .i64 a1.f2, .int .i64 a1.f3, .string a1.f4] 31 (0, 0))] :: [(b1, .cells #[.int .i64 a0.f0, .int .i64 a0.f1, .slice Aa0_f2 a0.f2.length ca0_f2, .slice Aa0_f3 a0.f3.length ca0_f3] 25 (0, 0))] :: Γ = Γ') ?_ ?_
  · clear hk5
    refine WP.region ?_
    refine WL.tell (op := .load 25 (.tmp 3)) (ty := 25) (d := some 9) (g := none) (by kernel_rfl) (by kernel_rfl) (by kernel_rfl) (Tells.load_box (i := 2) (b := b1) (o := 0) (agg := true) (by rfl) ag25 (by kernel_rfl) (fun h => by cases h) (Nat.le_of_ble_eq_true rfl) (v := .agg #[.int .i64 a0.f0, .int .i64 a0.f1, .slice Aa0_f2 a0.f2.length ca0_f2, .slice Aa0_f3 a0.f3.length ca0_f3]) (by kernel_rfl)) ?_
    rw [Option.bind_eq_some_iff] at h
    obtain ⟨t6, ht7, h⟩ := h
    refine WL.op (op := .call { callee := (.value (.func 9)), args := #[(.tmp 9)], argTypes := #[25] }) (ty := 4) (d := some 10) (g := none) (by kernel_rfl) (by kernel_rfl) (by kernel_rfl) (Does.call (f := 9) (args := [.agg #[.int .i64 a0.f0, .int .i64 a0.f1, .slice Aa0_f2 a0.f2.length ca0_f2, .slice Aa0_f3 a0.f3.length ca0_f3]]) (by kernel_rfl) (fun W hI => (grapevinelaw0_GreatAsk_calls k a0 Aa0_f2 ca0_f2 Ha0_f2 Aa0_f3 ca0_f3 Ha0_f3 t6 ht7 hI))) ?_
    rintro _ _ _ ⟨rfl, rfl, rfl⟩
    refine WL.pure 2 3 [3, 4, 5, 11] (L' := [(3, .pointer (some ⟨b1, 0, none⟩)), (4, .pointer (some ⟨b2, 0, none⟩)), (5, .pointer (some ⟨b3, 0, none⟩)), (11, .bool t6)]) (by kernel_rfl) (by decide) ?_
    refine WL.split 11 (b := t6) (by kernel_rfl) (fun hc => ?_) (fun hc => ?_)
    · replace hc := hc
      rw [if_pos hc] at h
      have hc10 := hc
      clear hc
      refine WL.rest 3 [3, 4, 5, 31] (L' := [(3, .pointer (some ⟨b1, 0, none⟩)), (4, .pointer (some ⟨b2, 0, none⟩)), (5, .pointer (some ⟨b3, 0, none⟩)), (31, .bool true)]) (by kernel_rfl) ?_
      refine QP.pick [3, 4, 5, 31] ?_
      exact QP.meet ⟨_, Option.some.inj h, rfl, rfl, rfl⟩
    · replace hc := (Bool.eq_false_iff.1 hc)
      rw [if_neg hc] at h
      have hc10 := hc
      clear hc
      refine WL.pure 3 4 [3, 4, 5, 11, 12] (L' := [(3, .pointer (some ⟨b1, 0, none⟩)), (4, .pointer (some ⟨b2, 0, none⟩)), (5, .pointer (some ⟨b3, 0, none⟩)), (11, .bool false), (12, .pointer (some ⟨b2, 4, none⟩))]) (by kernel_rfl) (by decide) ?_
      refine WL.tell (op := .load 9 (.tmp 12)) (ty := 9) (d := some 13) (g := some (2, false)) (by kernel_rfl) (by kernel_rfl) (by kernel_rfl) (Tells.load_box (i := 1) (b := b2) (o := 4) (agg := false) (by rfl) ag9 (by kernel_rfl) (fun _ => rfl) (Nat.le_of_ble_eq_true rfl) (v := .string a1.f4) (by kernel_rfl)) ?_
      refine WL.pure 5 9 [3, 4, 5, 17] (L' := [(3, .pointer (some ⟨b1, 0, none⟩)), (4, .pointer (some ⟨b2, 0, none⟩)), (5, .pointer (some ⟨b3, 0, none⟩)), (17, .bool (decide ((a1.f4.size : Int) > 300)))]) (by kernel_rfl) (by decide) ?_
      refine WL.split 17 (b := decide ((a1.f4.size : Int) > 300)) (by kernel_rfl) (fun hc => ?_) (fun hc => ?_)
      · replace hc := of_decide_eq_true hc
        rw [if_pos hc] at h
        have hc11 := hc
        clear hc
        refine WL.rest 9 [3, 4, 5, 31] (L' := [(3, .pointer (some ⟨b1, 0, none⟩)), (4, .pointer (some ⟨b2, 0, none⟩)), (5, .pointer (some ⟨b3, 0, none⟩)), (31, .bool true)]) (by kernel_rfl) ?_
        refine QP.pick [3, 4, 5, 31] ?_
        exact QP.meet ⟨_, Option.some.inj h, rfl, rfl, rfl⟩
      · replace hc := of_decide_eq_false hc
        rw [if_neg hc] at h
        have hc11 := hc
        clear hc
        refine WL.tell (op := .load 25 (.tmp 3)) (ty := 25) (d := some 18) (g := some (8, false)) (by kernel_rfl) (by kernel_rfl) (by kernel_rfl) (Tells.load_box (i := 2) (b := b1) (o := 0) (agg := true) (by rfl) ag25 (by kernel_rfl) (fun h => by cases h) (Nat.le_of_ble_eq_true rfl) (v := .agg #[.int .i64 a0.f0, .int .i64 a0.f1, .slice Aa0_f2 a0.f2.length ca0_f2, .slice Aa0_f3 a0.f3.length ca0_f3]) (by kernel_rfl)) ?_
        rw [Option.bind_eq_some_iff] at h
        obtain ⟨t12, ht13, h⟩ := h
        refine WL.op (op := .call { callee := (.value (.func 16)), args := #[(.tmp 18)], argTypes := #[25] }) (ty := 4) (d := some 19) (g := some (8, false)) (by kernel_rfl) (by kernel_rfl) (by kernel_rfl) (Does.call (f := 16) (args := [.agg #[.int .i64 a0.f0, .int .i64 a0.f1, .slice Aa0_f2 a0.f2.length ca0_f2, .slice Aa0_f3 a0.f3.length ca0_f3]]) (by kernel_rfl) (fun W hI => (ask_May_calls HT k a0 Aa0_f2 ca0_f2 Ha0_f2 Aa0_f3 ca0_f3 Ha0_f3 t12 ht13 hI))) ?_
        rintro _ _ _ ⟨rfl, rfl, rfl⟩
        refine WL.pure 11 14 [3, 4, 5, 22] (L' := [(3, .pointer (some ⟨b1, 0, none⟩)), (4, .pointer (some ⟨b2, 0, none⟩)), (5, .pointer (some ⟨b3, 0, none⟩)), (22, .bool (!t12))]) (by kernel_rfl) (by decide) ?_
        refine WL.split 22 (b := (!t12)) (by kernel_rfl) (fun hc => ?_) (fun hc => ?_)
        · replace hc := hc
          rw [if_pos hc] at h
          have hc16 := hc
          clear hc
          refine WL.rest 14 [3, 4, 5, 31] (L' := [(3, .pointer (some ⟨b1, 0, none⟩)), (4, .pointer (some ⟨b2, 0, none⟩)), (5, .pointer (some ⟨b3, 0, none⟩)), (31, .bool true)]) (by kernel_rfl) ?_
          refine QP.pick [3, 4, 5, 31] ?_
          exact QP.meet ⟨_, Option.some.inj h, rfl, rfl, rfl⟩
        · replace hc := (Bool.eq_false_iff.1 hc)
          rw [if_neg hc] at h
          have hc16 := hc
          clear hc
          refine WL.tell (op := .load 31 (.tmp 4)) (ty := 31) (d := some 23) (g := some (13, false)) (by kernel_rfl) (by kernel_rfl) (by kernel_rfl) (Tells.load_box (i := 1) (b := b2) (o := 0) (agg := true) (by rfl) ag31 (by kernel_rfl) (fun h => by cases h) (Nat.le_of_ble_eq_true rfl) (v := .agg #[.int .i64 a1.f0, .int .i64 a1.f1, .int .i64 a1.f2, .int .i64 a1.f3, .string a1.f4]) (by kernel_rfl)) ?_
          rw [Option.bind_eq_some_iff] at h
          obtain ⟨t17, ht18, h⟩ := h
          refine WL.op (op := .call { callee := (.value (.func 17)), args := #[(.tmp 23)], argTypes := #[31] }) (ty := 4) (d := some 24) (g := some (13, false)) (by kernel_rfl) (by kernel_rfl) (by kernel_rfl) (Does.call (f := 17) (args := [.agg #[.int .i64 a1.f0, .int .i64 a1.f1, .int .i64 a1.f2, .int .i64 a1.f3, .string a1.f4]]) (by kernel_rfl) (fun W hI => (record_May_calls HT a1  t17 ht18 hI))) ?_
          rintro _ _ _ ⟨rfl, rfl, rfl⟩
          refine WL.pure 16 19 [3, 4, 5, 27] (L' := [(3, .pointer (some ⟨b1, 0, none⟩)), (4, .pointer (some ⟨b2, 0, none⟩)), (5, .pointer (some ⟨b3, 0, none⟩)), (27, .bool (!t17))]) (by kernel_rfl) (by decide) ?_
          refine WL.split 27 (b := (!t17)) (by kernel_rfl) (fun hc => ?_) (fun hc => ?_)
          · replace hc := hc
            rw [if_pos hc] at h
            have hc21 := hc
            clear hc
            refine WL.rest 19 [3, 4, 5, 31] (L' := [(3, .pointer (some ⟨b1, 0, none⟩)), (4, .pointer (some ⟨b2, 0, none⟩)), (5, .pointer (some ⟨b3, 0, none⟩)), (31, .bool true)]) (by kernel_rfl) ?_
            refine QP.pick [3, 4, 5, 31] ?_
            exact QP.meet ⟨_, Option.some.inj h, rfl, rfl, rfl⟩
          · replace hc := (Bool.eq_false_iff.1 hc)
            rw [if_neg hc] at h
            have hc21 := hc
            clear hc
            refine WL.tell (op := .load 31 (.tmp 5)) (ty := 31) (d := some 28) (g := some (18, false)) (by kernel_rfl) (by kernel_rfl) (by kernel_rfl) (Tells.load_box (i := 0) (b := b3) (o := 0) (agg := true) (by rfl) ag31 (by kernel_rfl) (fun h => by cases h) (Nat.le_of_ble_eq_true rfl) (v := .agg #[.int .i64 a2.f0, .int .i64 a2.f1, .int .i64 a2.f2, .int .i64 a2.f3, .string a2.f4]) (by kernel_rfl)) ?_
            rw [Option.bind_eq_some_iff] at h
            obtain ⟨t22, ht23, h⟩ := h
            refine WL.op (op := .call { callee := (.value (.func 17)), args := #[(.tmp 28)], argTypes := #[31] }) (ty := 4) (d := some 29) (g := some (18, false)) (by kernel_rfl) (by kernel_rfl) (by kernel_rfl) (Does.call (f := 17) (args := [.agg #[.int .i64 a2.f0, .int .i64 a2.f1, .int .i64 a2.f2, .int .i64 a2.f3, .string a2.f4]]) (by kernel_rfl) (fun W hI => (record_May_calls HT a2  t22 ht23 hI))) ?_
            rintro _ _ _ ⟨rfl, rfl, rfl⟩
            refine WL.rest 21 [3, 4, 5, 31] (L' := [(3, .pointer (some ⟨b1, 0, none⟩)), (4, .pointer (some ⟨b2, 0, none⟩)), (5, .pointer (some ⟨b3, 0, none⟩)), (31, .bool (!t22))]) (by kernel_rfl) ?_
            refine QP.pick [3, 4, 5, 31] ?_
            exact QP.meet ⟨_, Option.some.inj h, rfl, rfl, rfl⟩
  · rintro _ _ _ ⟨s4, rfl, rfl, rfl, rfl⟩
    clear h
    replace h := hk5
    refine WP.cond (b := s4) (by kernel_rfl) (fun hc => ?_) (fun hc => ?_)
    · replace hc := hc
      rw [if_pos hc] at h
      have hc26 := hc
      clear hc
      refine WP.seqR ?_
      rw [Option.bind_eq_some_iff] at h
      obtain ⟨t27, ht28, h⟩ := h
      refine WL.op (op := .call { callee := (.value (.func 11)), args := #[], argTypes := #[] }) (ty := 4) (d := some 32) (g := none) (by kernel_rfl) (by kernel_rfl) (by kernel_rfl) (Does.call (f := 11) (args := []) (by kernel_rfl) (fun W hI => (grapevinelaw15_awake_calls HT k   t27 ht28 hI))) ?_
      rintro _ _ _ ⟨rfl, rfl, rfl⟩
      refine WL.restQ 1 [6] (L' := [(6, .bool t27)]) (by kernel_rfl) ?_
      refine WP.dropAt 2 ?_
      refine WP.dropAt 1 ?_
      refine WP.dropAt 0 ?_
      refine WP.ret ?_
      refine QP.thenR ?_
      obtain rfl := Option.some.inj h
      exact QP.returned [6] [.bool t27] _ (by kernel_rfl) (by kernel_rfl) (by kernel_rfl) (fun W hI => ⟨_, _, _, rfl, ⟨rfl, rfl, rfl⟩, hI⟩)
    · replace hc := (Bool.eq_false_iff.1 hc)
      rw [if_neg hc] at h
      have hc26 := hc
      clear hc
      refine WP.skip ?_
      refine QP.next ?_
      refine WP.pick [3, 4, 5] ?_
      refine WP.seqR ?_
      refine WL.pure 0 1 [3, 4, 5, 33] (L' := [(3, .pointer (some ⟨b1, 0, none⟩)), (4, .pointer (some ⟨b2, 0, none⟩)), (5, .pointer (some ⟨b3, 0, none⟩)), (33, .pointer (some ⟨b2, 4, none⟩))]) (by kernel_rfl) (by decide) ?_
      refine WL.tell (op := .load 9 (.tmp 33)) (ty := 9) (d := some 34) (g := none) (by kernel_rfl) (by kernel_rfl) (by kernel_rfl) (Tells.load_box (i := 1) (b := b2) (o := 4) (agg := false) (by rfl) ag9 (by kernel_rfl) (fun _ => rfl) (Nat.le_of_ble_eq_true rfl) (v := .string a1.f4) (by kernel_rfl)) ?_
      refine WL.pure 2 3 [3, 4, 5, 34, 35] (L' := [(3, .pointer (some ⟨b1, 0, none⟩)), (4, .pointer (some ⟨b2, 0, none⟩)), (5, .pointer (some ⟨b3, 0, none⟩)), (34, .string a1.f4), (35, .pointer (some ⟨b3, 4, none⟩))]) (by kernel_rfl) (by decide) ?_
      refine WL.op (op := .store 9 (.tmp 35) (.tmp 34)) (ty := 0) (d := none) (g := none) (by kernel_rfl) (by kernel_rfl) (by kernel_rfl) (Does.store_box (i := 0) (b := b3) (o := 4) (v := .string a1.f4) (by rfl) sz9 (by kernel_rfl) (by kernel_rfl) (by kernel_rfl) (Free.zero _) (Nat.le_of_ble_eq_true rfl) (cells' := #[.int .i64 a2.f0, .int .i64 a2.f1, .int .i64 a2.f2, .int .i64 a2.f3, .string a1.f4]) (by kernel_rfl)) ?_
      rintro _ _ _ ⟨rfl, rfl, rfl⟩
      refine WL.restQ 4 [3, 4, 5] (L' := [(3, .pointer (some ⟨b1, 0, none⟩)), (4, .pointer (some ⟨b2, 0, none⟩)), (5, .pointer (some ⟨b3, 0, none⟩))]) (by kernel_rfl) ?_
      refine WP.seqR ?_
      refine WL.pure 0 1 [3, 4, 5, 36] (L' := [(3, .pointer (some ⟨b1, 0, none⟩)), (4, .pointer (some ⟨b2, 0, none⟩)), (5, .pointer (some ⟨b3, 0, none⟩)), (36, .agg #[.int .i64 5, .int .i64 0, .slice none 0 0, .slice none 0 0])]) (by kernel_rfl) (by decide) ?_
      refine WL.op (op := .alloc 25) (ty := 0) (d := some 7) (g := none) (by kernel_rfl) (by kernel_rfl) (by kernel_rfl) (Does.new (o := .cells #[.int .i64 0, .int .i64 0, .slice none 0 0, .slice none 0 0] 25 (0, 0)) (v := fun r => .pointer (some ⟨r, 0, none⟩)) (fun r => by kernel_rfl)) ?_
      rintro _ _ _ ⟨b31, rfl, rfl, rfl⟩
      refine WL.op (op := .store 25 (.tmp 7) (.tmp 36)) (ty := 0) (d := none) (g := none) (by kernel_rfl) (by kernel_rfl) (by kernel_rfl) (Does.store_box (i := 0) (b := b31) (o := 0) (v := .agg #[.int .i64 5, .int .i64 0, .slice none 0 0, .slice none 0 0]) (by rfl) sz25 (by kernel_rfl) (by kernel_rfl) (by kernel_rfl) (Free.zero _) (Nat.le_of_ble_eq_true rfl) (cells' := #[.int .i64 5, .int .i64 0, .slice none 0 0, .slice none 0 0]) (by kernel_rfl)) ?_
      rintro _ _ _ ⟨rfl, rfl, rfl⟩
      refine WL.restQ 3 [3, 4, 5, 7] (L' := [(3, .pointer (some ⟨b1, 0, none⟩)), (4, .pointer (some ⟨b2, 0, none⟩)), (5, .pointer (some ⟨b3, 0, none⟩)), (7, .pointer (some ⟨b31, 0, none⟩))]) (by kernel_rfl) ?_
      refine WP.seqR ?_
      refine WL.tell (op := .load 25 (.tmp 7)) (ty := 25) (d := some 37) (g := none) (by kernel_rfl) (by kernel_rfl) (by kernel_rfl) (Tells.load_box (i := 0) (b := b31) (o := 0) (agg := true) (by rfl) ag25 (by kernel_rfl) (fun h => by cases h) (Nat.le_of_ble_eq_true rfl) (v := .agg #[.int .i64 5, .int .i64 0, .slice none 0 0, .slice none 0 0]) (by kernel_rfl)) ?_
      refine WL.tell (op := .load 25 (.tmp 3)) (ty := 25) (d := some 38) (g := none) (by kernel_rfl) (by kernel_rfl) (by kernel_rfl) (Tells.load_box (i := 3) (b := b1) (o := 0) (agg := true) (by rfl) ag25 (by kernel_rfl) (fun h => by cases h) (Nat.le_of_ble_eq_true rfl) (v := .agg #[.int .i64 a0.f0, .int .i64 a0.f1, .slice Aa0_f2 a0.f2.length ca0_f2, .slice Aa0_f3 a0.f3.length ca0_f3]) (by kernel_rfl)) ?_
      refine WL.op (op := .buildSlice 23 2 #[(0, (.tmp 37)), (1, (.tmp 38))]) (ty := 23) (d := some 39) (g := none) (by kernel_rfl) (by kernel_rfl) (by kernel_rfl) (Does.new (o := .cells #[.int .i64 5, .int .i64 0, .slice none 0 0, .slice none 0 0, .int .i64 a0.f0, .int .i64 a0.f1, .slice Aa0_f2 a0.f2.length ca0_f2, .slice Aa0_f3 a0.f3.length ca0_f3] 25 (0, 0)) (v := fun r => .slice (some ⟨r, 0, none⟩) 2 2) (fun r => by kernel_rfl)) ?_
      rintro _ _ _ ⟨b32, rfl, rfl, rfl⟩
      have Ho34 : Ow k25 G (some ⟨b32, 0, none⟩) 2 ([(⟨5, 0, ([] : List ByteArray), ([] : List T25)⟩ : T25), a0] : List T25) [(b32, .cells #[.int .i64 5, .int .i64 0, .slice none 0 0, .slice none 0 0, .int .i64 a0.f0, .int .i64 a0.f1, .slice Aa0_f2 a0.f2.length ca0_f2, .slice Aa0_f3 a0.f3.length ca0_f3] 25 (0, 0))] := Ow.lit (kd := k25) (G := G) (b := b32) (T := 25) (xs := ([(⟨5, 0, ([] : List ByteArray), ([] : List T25)⟩ : T25), a0] : List T25)) (cs := [.int .i64 5, .int .i64 0, .slice none 0 0, .slice none 0 0, .int .i64 a0.f0, .int .i64 a0.f1, .slice Aa0_f2 a0.f2.length ca0_f2, .slice Aa0_f3 a0.f3.length ca0_f3]) (.cons (x := (⟨5, 0, ([] : List ByteArray), ([] : List T25)⟩ : T25)) (cs := [.int .i64 5, .int .i64 0, .slice none 0 0, .slice none 0 0]) (k25_in ⟨[.int .i64 5], _, rfl, rfl, ⟨[.int .i64 0], _, rfl, rfl, ⟨[.slice none 0 0], _, rfl, ⟨none, 0, rfl, (Rd.nil _ _ _ _)⟩, ⟨none, 0, rfl, (Rd.nil _ _ _ _)⟩⟩⟩⟩) (.cons (x := a0) (cs := [.int .i64 a0.f0, .int .i64 a0.f1, .slice Aa0_f2 a0.f2.length ca0_f2, .slice Aa0_f3 a0.f3.length ca0_f3]) (k25_in ⟨[.int .i64 a0.f0], _, rfl, rfl, ⟨[.int .i64 a0.f1], _, rfl, rfl, ⟨[.slice Aa0_f2 a0.f2.length ca0_f2], _, rfl, ⟨Aa0_f2, ca0_f2, rfl, Ha0_f2⟩, ⟨Aa0_f3, ca0_f3, rfl, Ha0_f3⟩⟩⟩⟩) .nil))
      refine WL.pure 3 4 [3, 4, 5, 7, 40] (L' := [(3, .pointer (some ⟨b1, 0, none⟩)), (4, .pointer (some ⟨b2, 0, none⟩)), (5, .pointer (some ⟨b3, 0, none⟩)), (7, .pointer (some ⟨b31, 0, none⟩)), (40, .agg #[.int .i64 7, .int .i64 0, .slice none 0 0, .slice (some ⟨b32, 0, none⟩) ([(⟨5, 0, ([] : List ByteArray), ([] : List T25)⟩ : T25), a0] : List T25).length 2])]) (by kernel_rfl) (by decide) ?_
      refine WL.op (op := .alloc 25) (ty := 0) (d := some 8) (g := none) (by kernel_rfl) (by kernel_rfl) (by kernel_rfl) (Does.new (o := .cells #[.int .i64 0, .int .i64 0, .slice none 0 0, .slice none 0 0] 25 (0, 0)) (v := fun r => .pointer (some ⟨r, 0, none⟩)) (fun r => by kernel_rfl)) ?_
      rintro _ _ _ ⟨b35, rfl, rfl, rfl⟩
      refine WL.op (op := .store 25 (.tmp 8) (.tmp 40)) (ty := 0) (d := none) (g := none) (by kernel_rfl) (by kernel_rfl) (by kernel_rfl) (Does.store_box (i := 0) (b := b35) (o := 0) (v := .agg #[.int .i64 7, .int .i64 0, .slice none 0 0, .slice (some ⟨b32, 0, none⟩) ([(⟨5, 0, ([] : List ByteArray), ([] : List T25)⟩ : T25), a0] : List T25).length 2]) (by rfl) sz25 (by kernel_rfl) (by kernel_rfl) (by kernel_rfl) (Free.zero _) (Nat.le_of_ble_eq_true rfl) (cells' := #[.int .i64 7, .int .i64 0, .slice none 0 0, .slice (some ⟨b32, 0, none⟩) ([(⟨5, 0, ([] : List ByteArray), ([] : List T25)⟩ : T25), a0] : List T25).length 2]) (by kernel_rfl)) ?_
      rintro _ _ _ ⟨rfl, rfl, rfl⟩
      refine WL.restQ 6 [3, 4, 5, 7, 8] (L' := [(3, .pointer (some ⟨b1, 0, none⟩)), (4, .pointer (some ⟨b2, 0, none⟩)), (5, .pointer (some ⟨b3, 0, none⟩)), (7, .pointer (some ⟨b31, 0, none⟩)), (8, .pointer (some ⟨b35, 0, none⟩))]) (by kernel_rfl) ?_
      refine WP.seq ?_
      rw [Option.bind_eq_some_iff] at h
      obtain ⟨os36, h, hk37⟩ := h
      refine WP.cut (fun L' G' Γ' => ∃ s36 : Bool, s36 = os36 ∧ L' = [(3, .pointer (some ⟨b1, 0, none⟩)), (4, .pointer (some ⟨b2, 0, none⟩)), (5, .pointer (some ⟨b3, 0, none⟩)), (7, .pointer (some ⟨b31, 0, none⟩)), (51, .bool s36)] ∧ G = G' ∧ [(b31, .cells #[.int .i64 5, .int .i64 0, .slice none 0 0, .slice none 0 0] 25 (0, 0))] :: [(b3, .cells #[.int .i64 a2.f0, .int .i64 a2.f1, .int .i64 a2.f2, .int .i64 a2.f3, .string a1.f4] 31 (0, 0))] :: [(b2, .cells #[.int .i64 a1.f0, .int .i64 a1.f1, .int .i64 a1.f2, .int .i64 a1.f3, .string a1.f4] 31 (0, 0))] :: [(b1, .cells #[.int .i64 a0.f0, .int .i64 a0.f1, .slice Aa0_f2 a0.f2.length ca0_f2, .slice Aa0_f3 a0.f3.length ca0_f3] 25 (0, 0))] :: Γ = Γ') ?_ ?_
      · clear hk37
        skip
        refine WP.any (N := 11) (S := [⟨some 41, [8], []⟩, ⟨some 42, [41], [0]⟩, ⟨some 43, [42], [1]⟩, ⟨some 44, [8, 43], [2]⟩, ⟨some 45, [4, 43], [2]⟩, ⟨some 46, [43, 44, 45], [2, 3, 4]⟩, ⟨some 47, [3, 43], [2]⟩, ⟨some 48, [4, 43], [2]⟩, ⟨some 49, [43, 47, 48], [2, 5, 6, 7]⟩, ⟨some 50, [43, 46, 49], [2, 5, 8]⟩, ⟨some 51, [43, 50], [2, 9]⟩]) (kw := 11) (G0 := G) (Γ0 := [(b35, .cells #[.int .i64 7, .int .i64 0, .slice none 0 0, .slice (some ⟨b32, 0, none⟩) ([(⟨5, 0, ([] : List ByteArray), ([] : List T25)⟩ : T25), a0] : List T25).length 2] 25 (0, 0))] :: [(b32, .cells #[.int .i64 5, .int .i64 0, .slice none 0 0, .slice none 0 0, .int .i64 a0.f0, .int .i64 a0.f1, .slice Aa0_f2 a0.f2.length ca0_f2, .slice Aa0_f3 a0.f3.length ca0_f3] 25 (0, 0))] :: [(b31, .cells #[.int .i64 5, .int .i64 0, .slice none 0 0, .slice none 0 0] 25 (0, 0))] :: [(b3, .cells #[.int .i64 a2.f0, .int .i64 a2.f1, .int .i64 a2.f2, .int .i64 a2.f3, .string a1.f4] 31 (0, 0))] :: [(b2, .cells #[.int .i64 a1.f0, .int .i64 a1.f1, .int .i64 a1.f2, .int .i64 a1.f3, .string a1.f4] 31 (0, 0))] :: [(b1, .cells #[.int .i64 a0.f0, .int .i64 a0.f1, .slice Aa0_f2 a0.f2.length ca0_f2, .slice Aa0_f3 a0.f3.length ca0_f3] 25 (0, 0))] :: Γ) mo (by kernel_rfl) (fun hS => ?_)
        refine WA.tellD [] (i := 0) (m := 10) (b' := 1) (by kernel_rfl) (NoPanic.then (NoPanic.then (NoPanic.body))) Under.refl hS (by kernel_rfl) (op := .load 25 (.tmp 8)) (ty := 25) (d := some 41) (g := none) (by kernel_rfl) (by kernel_rfl) (by kernel_rfl) (Tells.load_box (i := 0) (b := b35) (o := 0) (agg := true) (by rfl) ag25 (by kernel_rfl) (fun h => by cases h) (Nat.le_of_ble_eq_true rfl) (v := .agg #[.int .i64 7, .int .i64 0, .slice none 0 0, .slice (some ⟨b32, 0, none⟩) ([(⟨5, 0, ([] : List ByteArray), ([] : List T25)⟩ : T25), a0] : List T25).length 2]) (by kernel_rfl)) ?_
        rw [Option.bind_eq_some_iff] at h
        obtain ⟨t38, ht39, h⟩ := h
        refine WA.op (i := 1) (m := 9) (b' := 3) (by kernel_rfl) hS (by kernel_rfl) (op := .call { callee := (.value (.func 16)), args := #[(.tmp 41)], argTypes := #[25] }) (ty := 4) (d := some 42) (g := none) (by kernel_rfl) (by kernel_rfl) (by kernel_rfl) (Does.call (Φ := fun v' G' Γ' => v' = .bool t38 ∧ G = G' ∧ [(b35, .cells #[.int .i64 7, .int .i64 0, .slice none 0 0, .slice (some ⟨b32, 0, none⟩) ([(⟨5, 0, ([] : List ByteArray), ([] : List T25)⟩ : T25), a0] : List T25).length 2] 25 (0, 0))] :: [(b32, .cells #[.int .i64 5, .int .i64 0, .slice none 0 0, .slice none 0 0, .int .i64 a0.f0, .int .i64 a0.f1, .slice Aa0_f2 a0.f2.length ca0_f2, .slice Aa0_f3 a0.f3.length ca0_f3] 25 (0, 0))] :: [(b31, .cells #[.int .i64 5, .int .i64 0, .slice none 0 0, .slice none 0 0] 25 (0, 0))] :: [(b3, .cells #[.int .i64 a2.f0, .int .i64 a2.f1, .int .i64 a2.f2, .int .i64 a2.f3, .string a1.f4] 31 (0, 0))] :: [(b2, .cells #[.int .i64 a1.f0, .int .i64 a1.f1, .int .i64 a1.f2, .int .i64 a1.f3, .string a1.f4] 31 (0, 0))] :: [(b1, .cells #[.int .i64 a0.f0, .int .i64 a0.f1, .slice Aa0_f2 a0.f2.length ca0_f2, .slice Aa0_f3 a0.f3.length ca0_f3] 25 (0, 0))] :: Γ = Γ') (f := 16) (args := [.agg #[.int .i64 7, .int .i64 0, .slice none 0 0, .slice (some ⟨b32, 0, none⟩) ([(⟨5, 0, ([] : List ByteArray), ([] : List T25)⟩ : T25), a0] : List T25).length 2]]) (by kernel_rfl) (fun W hI => (Calls.lendN (Φ := fun v' N => v' = .bool t38 ∧ N = []) (H := []) (i := 1) rfl hI (fun _ e l42 nl42 hI => by subst e; exact (((ask_May_calls (HT.mono l42) k (⟨7, 0, ([] : List ByteArray), ([(⟨5, 0, ([] : List ByteArray), ([] : List T25)⟩ : T25), a0] : List T25)⟩ : T25) none 0 (Rd.nil _ _ _ _) (some ⟨b32, 0, none⟩) 2 (Ho34.rdN l42 nl42) t38 ht39 hI)).mono fun _ _ hr => by obtain ⟨_, _, _, rfl, hd, hI⟩ := hr; obtain ⟨rfl, rfl, rfl⟩ := hd; exact ⟨_, _, _, rfl, ⟨[], ⟨rfl, rfl⟩, rfl, rfl⟩, hI⟩))).mono fun _ _ hr => by obtain ⟨_, _, _, rfl, ⟨_, hd, rfl, rfl⟩, hI⟩ := hr; obtain ⟨rfl, rfl⟩ := hd; exact ⟨_, _, _, rfl, ⟨rfl, rfl, rfl⟩, hI⟩)) ?_
        rintro _ _ _ ⟨rfl, rfl, rfl⟩
        refine ⟨_, _, Under.refl, Under.refl, ?_⟩
        refine WA.pure [2] [3, 4, 5, 7, 8, 43] (m := 8) (b' := 7) (L' := [(3, .pointer (some ⟨b1, 0, none⟩)), (4, .pointer (some ⟨b2, 0, none⟩)), (5, .pointer (some ⟨b3, 0, none⟩)), (7, .pointer (some ⟨b31, 0, none⟩)), (8, .pointer (some ⟨b35, 0, none⟩)), (43, .bool t38)]) (by kernel_rfl) (NoPanic.then (NoPanic.then (NoPanic.body))) Under.refl hS (by kernel_rfl) ?_
        refine WA.split 43 (b := t38) (by kernel_rfl) (fun hc => ?_) (fun hc => ?_)
        · replace hc := hc
          rw [if_pos hc] at h
          have hc43 := hc
          clear hc
          refine WA.tellD [] (i := 3) (m := 7) (b' := 15) (by kernel_rfl) (NoPanic.then (NoPanic.then (NoPanic.body))) Under.refl hS (by kernel_rfl) (op := .load 25 (.tmp 8)) (ty := 25) (d := some 44) (g := some (2, true)) (by kernel_rfl) (by kernel_rfl) (by kernel_rfl) (Tells.load_box (i := 0) (b := b35) (o := 0) (agg := true) (by rfl) ag25 (by kernel_rfl) (fun h => by cases h) (Nat.le_of_ble_eq_true rfl) (v := .agg #[.int .i64 7, .int .i64 0, .slice none 0 0, .slice (some ⟨b32, 0, none⟩) ([(⟨5, 0, ([] : List ByteArray), ([] : List T25)⟩ : T25), a0] : List T25).length 2]) (by kernel_rfl)) ?_
          refine WA.tellD [] (i := 4) (m := 6) (b' := 31) (by kernel_rfl) (NoPanic.then (NoPanic.then (NoPanic.body))) Under.refl hS (by kernel_rfl) (op := .load 31 (.tmp 4)) (ty := 31) (d := some 45) (g := some (2, true)) (by kernel_rfl) (by kernel_rfl) (by kernel_rfl) (Tells.load_box (i := 4) (b := b2) (o := 0) (agg := true) (by rfl) ag31 (by kernel_rfl) (fun h => by cases h) (Nat.le_of_ble_eq_true rfl) (v := .agg #[.int .i64 a1.f0, .int .i64 a1.f1, .int .i64 a1.f2, .int .i64 a1.f3, .string a1.f4]) (by kernel_rfl)) ?_
          refine WA.tellD [] (i := 6) (m := 5) (b' := 95) (by kernel_rfl) (NoPanic.then (NoPanic.then (NoPanic.body))) Under.refl hS (by kernel_rfl) (op := .load 25 (.tmp 3)) (ty := 25) (d := some 47) (g := some (2, true)) (by kernel_rfl) (by kernel_rfl) (by kernel_rfl) (Tells.load_box (i := 5) (b := b1) (o := 0) (agg := true) (by rfl) ag25 (by kernel_rfl) (fun h => by cases h) (Nat.le_of_ble_eq_true rfl) (v := .agg #[.int .i64 a0.f0, .int .i64 a0.f1, .slice Aa0_f2 a0.f2.length ca0_f2, .slice Aa0_f3 a0.f3.length ca0_f3]) (by kernel_rfl)) ?_
          refine WA.tellD [] (i := 7) (m := 4) (b' := 223) (by kernel_rfl) (NoPanic.then (NoPanic.then (NoPanic.body))) Under.refl hS (by kernel_rfl) (op := .load 31 (.tmp 4)) (ty := 31) (d := some 48) (g := some (2, true)) (by kernel_rfl) (by kernel_rfl) (by kernel_rfl) (Tells.load_box (i := 4) (b := b2) (o := 0) (agg := true) (by rfl) ag31 (by kernel_rfl) (fun h => by cases h) (Nat.le_of_ble_eq_true rfl) (v := .agg #[.int .i64 a1.f0, .int .i64 a1.f1, .int .i64 a1.f2, .int .i64 a1.f3, .string a1.f4]) (by kernel_rfl)) ?_
          rw [Option.bind_eq_some_iff] at h
          obtain ⟨t44, ht45, h⟩ := h
          refine WA.op (i := 5) (m := 3) (b' := 255) (by kernel_rfl) hS (by kernel_rfl) (op := .call { callee := (.value (.func 12)), args := #[(.tmp 44), (.tmp 45)], argTypes := #[25, 31] }) (ty := 4) (d := some 46) (g := some (2, true)) (by kernel_rfl) (by kernel_rfl) (by kernel_rfl) (Does.call (Φ := fun v' G' Γ' => v' = .bool t44 ∧ G = G' ∧ [(b35, .cells #[.int .i64 7, .int .i64 0, .slice none 0 0, .slice (some ⟨b32, 0, none⟩) ([(⟨5, 0, ([] : List ByteArray), ([] : List T25)⟩ : T25), a0] : List T25).length 2] 25 (0, 0))] :: [(b32, .cells #[.int .i64 5, .int .i64 0, .slice none 0 0, .slice none 0 0, .int .i64 a0.f0, .int .i64 a0.f1, .slice Aa0_f2 a0.f2.length ca0_f2, .slice Aa0_f3 a0.f3.length ca0_f3] 25 (0, 0))] :: [(b31, .cells #[.int .i64 5, .int .i64 0, .slice none 0 0, .slice none 0 0] 25 (0, 0))] :: [(b3, .cells #[.int .i64 a2.f0, .int .i64 a2.f1, .int .i64 a2.f2, .int .i64 a2.f3, .string a1.f4] 31 (0, 0))] :: [(b2, .cells #[.int .i64 a1.f0, .int .i64 a1.f1, .int .i64 a1.f2, .int .i64 a1.f3, .string a1.f4] 31 (0, 0))] :: [(b1, .cells #[.int .i64 a0.f0, .int .i64 a0.f1, .slice Aa0_f2 a0.f2.length ca0_f2, .slice Aa0_f3 a0.f3.length ca0_f3] 25 (0, 0))] :: Γ = Γ') (f := 12) (args := [.agg #[.int .i64 7, .int .i64 0, .slice none 0 0, .slice (some ⟨b32, 0, none⟩) ([(⟨5, 0, ([] : List ByteArray), ([] : List T25)⟩ : T25), a0] : List T25).length 2], .agg #[.int .i64 a1.f0, .int .i64 a1.f1, .int .i64 a1.f2, .int .i64 a1.f3, .string a1.f4]]) (by kernel_rfl) (fun W hI => (Calls.lendN (Φ := fun v' N => v' = .bool t44 ∧ N = []) (H := []) (i := 1) rfl hI (fun _ e l48 nl48 hI => by subst e; exact (((deem_Holds_calls (HT.mono l48) k (⟨7, 0, ([] : List ByteArray), ([(⟨5, 0, ([] : List ByteArray), ([] : List T25)⟩ : T25), a0] : List T25)⟩ : T25) a1 none 0 (Rd.nil _ _ _ _) (some ⟨b32, 0, none⟩) 2 (Ho34.rdN l48 nl48) t44 ht45 hI)).mono fun _ _ hr => by obtain ⟨_, _, _, rfl, hd, hI⟩ := hr; obtain ⟨rfl, rfl, rfl⟩ := hd; exact ⟨_, _, _, rfl, ⟨[], ⟨rfl, rfl⟩, rfl, rfl⟩, hI⟩))).mono fun _ _ hr => by obtain ⟨_, _, _, rfl, ⟨_, hd, rfl, rfl⟩, hI⟩ := hr; obtain ⟨rfl, rfl⟩ := hd; exact ⟨_, _, _, rfl, ⟨rfl, rfl, rfl⟩, hI⟩)) ?_
          rintro _ _ _ ⟨rfl, rfl, rfl⟩
          refine ⟨_, _, Under.refl, Under.refl, ?_⟩
          rw [Option.bind_eq_some_iff] at h
          obtain ⟨t49, ht50, h⟩ := h
          refine WA.op (i := 8) (m := 2) (b' := 511) (by kernel_rfl) hS (by kernel_rfl) (op := .call { callee := (.value (.func 12)), args := #[(.tmp 47), (.tmp 48)], argTypes := #[25, 31] }) (ty := 4) (d := some 49) (g := some (2, true)) (by kernel_rfl) (by kernel_rfl) (by kernel_rfl) (Does.call (f := 12) (args := [.agg #[.int .i64 a0.f0, .int .i64 a0.f1, .slice Aa0_f2 a0.f2.length ca0_f2, .slice Aa0_f3 a0.f3.length ca0_f3], .agg #[.int .i64 a1.f0, .int .i64 a1.f1, .int .i64 a1.f2, .int .i64 a1.f3, .string a1.f4]]) (by kernel_rfl) (fun W hI => (deem_Holds_calls HT k a0 a1 Aa0_f2 ca0_f2 Ha0_f2 Aa0_f3 ca0_f3 Ha0_f3 t49 ht50 hI))) ?_
          rintro _ _ _ ⟨rfl, rfl, rfl⟩
          refine ⟨_, _, Under.refl, Under.refl, ?_⟩
          refine WA.pure [9, 10] [3, 4, 5, 7, 51] (m := 0) (b' := 2047) (L' := [(3, .pointer (some ⟨b1, 0, none⟩)), (4, .pointer (some ⟨b2, 0, none⟩)), (5, .pointer (some ⟨b3, 0, none⟩)), (7, .pointer (some ⟨b31, 0, none⟩)), (51, .bool (!(t44 == t49)))]) (by kernel_rfl) (NoPanic.then (NoPanic.then (NoPanic.body))) Under.refl hS (by kernel_rfl) ?_
          refine WA.done hS (by kernel_rfl) ?_
          refine QP.pick [3, 4, 5, 7, 51] ?_
          refine QP.dropAt 1 ?_
          refine QP.dropAt 0 ?_
          refine QP.pick [3, 4, 5, 7, 51] ?_
          exact QP.meet ⟨_, Option.some.inj h, rfl, rfl, rfl⟩
        · replace hc := (Bool.eq_false_iff.1 hc)
          rw [if_neg hc] at h
          have hc43 := hc
          clear hc
          refine WA.pure [3, 4, 5, 6, 7, 8, 9, 10] [3, 4, 5, 7, 51] (m := 0) (b' := 2047) (L' := [(3, .pointer (some ⟨b1, 0, none⟩)), (4, .pointer (some ⟨b2, 0, none⟩)), (5, .pointer (some ⟨b3, 0, none⟩)), (7, .pointer (some ⟨b31, 0, none⟩)), (51, .bool false)]) (by kernel_rfl) (NoPanic.then (NoPanic.then (NoPanic.body))) Under.refl hS (by kernel_rfl) ?_
          refine WA.done hS (by kernel_rfl) ?_
          refine QP.pick [3, 4, 5, 7, 51] ?_
          refine QP.dropAt 1 ?_
          refine QP.dropAt 0 ?_
          refine QP.pick [3, 4, 5, 7, 51] ?_
          exact QP.meet ⟨_, Option.some.inj h, rfl, rfl, rfl⟩
      · rintro _ _ _ ⟨s36, rfl, rfl, rfl, rfl⟩
        clear h
        replace h := hk37
        refine WP.cond (b := s36) (by kernel_rfl) (fun hc => ?_) (fun hc => ?_)
        · replace hc := hc
          rw [if_pos hc] at h
          have hc53 := hc
          clear hc
          refine WP.seqP [6] (L' := [(6, .bool false)]) (by kernel_rfl) ?_
          refine WP.dropAt 3 ?_
          refine WP.dropAt 2 ?_
          refine WP.dropAt 1 ?_
          refine WP.dropAt 0 ?_
          refine WP.ret ?_
          refine QP.thenR ?_
          obtain rfl := Option.some.inj h
          exact QP.returned [6] [.bool false] _ (by kernel_rfl) (by kernel_rfl) (by kernel_rfl) (fun W hI => ⟨_, _, _, rfl, ⟨rfl, rfl, rfl⟩, hI⟩)
        · replace hc := (Bool.eq_false_iff.1 hc)
          rw [if_neg hc] at h
          have hc53 := hc
          clear hc
          refine WP.skip ?_
          refine QP.next ?_
          refine WP.pick [3, 4, 5, 7] ?_
          rw [Option.bind_eq_some_iff] at h
          obtain ⟨os54, h, hk55⟩ := h
          refine WP.cut (fun L' G' Γ' => ∃ s54 : Bool, s54 = os54 ∧ L' = [(6, .bool s54)] ∧ G = G' ∧ Γ = Γ') ?_ ?_
          · clear hk55
            skip
            refine WP.any (N := 20) (S := [⟨some 52, [7], []⟩, ⟨some 53, [4], []⟩, ⟨some 54, [52, 53], [0, 1]⟩, ⟨some 55, [54], [2]⟩, ⟨some 56, [3, 55], [3]⟩, ⟨some 57, [55, 56], [3, 4]⟩, ⟨some 58, [55, 57], [3, 5]⟩, ⟨some 59, [3, 58], [6]⟩, ⟨some 60, [4, 58], [6]⟩, ⟨some 61, [58, 59, 60], [6, 7, 8]⟩, ⟨some 62, [3, 58], [6]⟩, ⟨some 63, [5, 58], [6]⟩, ⟨some 64, [58, 62, 63], [6, 9, 10, 11]⟩, ⟨some 65, [58, 61, 64], [6, 9, 12]⟩, ⟨some 66, [55, 58, 65], [3, 6, 13]⟩, ⟨some 67, [55, 66], [3, 14]⟩, ⟨some 68, [67], [12, 15]⟩, ⟨some 69, [68], [16]⟩, ⟨some 70, [68, 69], [16, 17]⟩, ⟨some 6, [70], [0, 1, 2, 3, 4, 5, 6, 7, 8, 9, 10, 11, 12, 13, 14, 15, 16, 17, 18]⟩]) (kw := 20) (G0 := G) (Γ0 := [(b31, .cells #[.int .i64 5, .int .i64 0, .slice none 0 0, .slice none 0 0] 25 (0, 0))] :: [(b3, .cells #[.int .i64 a2.f0, .int .i64 a2.f1, .int .i64 a2.f2, .int .i64 a2.f3, .string a1.f4] 31 (0, 0))] :: [(b2, .cells #[.int .i64 a1.f0, .int .i64 a1.f1, .int .i64 a1.f2, .int .i64 a1.f3, .string a1.f4] 31 (0, 0))] :: [(b1, .cells #[.int .i64 a0.f0, .int .i64 a0.f1, .slice Aa0_f2 a0.f2.length ca0_f2, .slice Aa0_f3 a0.f3.length ca0_f3] 25 (0, 0))] :: Γ) mo (by kernel_rfl) (fun hS => ?_)
            refine WA.tellD [] (i := 0) (m := 19) (b' := 1) (by kernel_rfl) (NoPanic.then (NoPanic.body)) Under.refl hS (by kernel_rfl) (op := .load 25 (.tmp 7)) (ty := 25) (d := some 52) (g := none) (by kernel_rfl) (by kernel_rfl) (by kernel_rfl) (Tells.load_box (i := 0) (b := b31) (o := 0) (agg := true) (by rfl) ag25 (by kernel_rfl) (fun h => by cases h) (Nat.le_of_ble_eq_true rfl) (v := .agg #[.int .i64 5, .int .i64 0, .slice none 0 0, .slice none 0 0]) (by kernel_rfl)) ?_
            refine WA.tellD [] (i := 1) (m := 18) (b' := 3) (by kernel_rfl) (NoPanic.then (NoPanic.body)) Under.refl hS (by kernel_rfl) (op := .load 31 (.tmp 4)) (ty := 31) (d := some 53) (g := none) (by kernel_rfl) (by kernel_rfl) (by kernel_rfl) (Tells.load_box (i := 2) (b := b2) (o := 0) (agg := true) (by rfl) ag31 (by kernel_rfl) (fun h => by cases h) (Nat.le_of_ble_eq_true rfl) (v := .agg #[.int .i64 a1.f0, .int .i64 a1.f1, .int .i64 a1.f2, .int .i64 a1.f3, .string a1.f4]) (by kernel_rfl)) ?_
            rw [Option.bind_eq_some_iff] at h
            obtain ⟨t56, ht57, h⟩ := h
            refine WA.op (i := 2) (m := 17) (b' := 7) (by kernel_rfl) hS (by kernel_rfl) (op := .call { callee := (.value (.func 12)), args := #[(.tmp 52), (.tmp 53)], argTypes := #[25, 31] }) (ty := 4) (d := some 54) (g := none) (by kernel_rfl) (by kernel_rfl) (by kernel_rfl) (Does.call (f := 12) (args := [.agg #[.int .i64 5, .int .i64 0, .slice none 0 0, .slice none 0 0], .agg #[.int .i64 a1.f0, .int .i64 a1.f1, .int .i64 a1.f2, .int .i64 a1.f3, .string a1.f4]]) (by kernel_rfl) (fun W hI => (deem_Holds_calls HT k (⟨5, 0, ([] : List ByteArray), ([] : List T25)⟩ : T25) a1 none 0 (Rd.nil _ _ _ _) none 0 (Rd.nil _ _ _ _) t56 ht57 hI))) ?_
            rintro _ _ _ ⟨rfl, rfl, rfl⟩
            refine ⟨_, _, Under.refl, Under.refl, ?_⟩
            refine WA.pure [3] [3, 4, 5, 55] (m := 16) (b' := 15) (L' := [(3, .pointer (some ⟨b1, 0, none⟩)), (4, .pointer (some ⟨b2, 0, none⟩)), (5, .pointer (some ⟨b3, 0, none⟩)), (55, .bool t56)]) (by kernel_rfl) (NoPanic.then (NoPanic.body)) Under.refl hS (by kernel_rfl) ?_
            refine WA.split 55 (b := t56) (by kernel_rfl) (fun hc => ?_) (fun hc => ?_)
            · replace hc := hc
              rw [if_pos hc] at h
              have hc60 := hc
              clear hc
              refine WA.tellD [] (i := 4) (m := 15) (b' := 31) (by kernel_rfl) (NoPanic.then (NoPanic.body)) Under.refl hS (by kernel_rfl) (op := .load 25 (.tmp 3)) (ty := 25) (d := some 56) (g := some (3, true)) (by kernel_rfl) (by kernel_rfl) (by kernel_rfl) (Tells.load_box (i := 3) (b := b1) (o := 0) (agg := true) (by rfl) ag25 (by kernel_rfl) (fun h => by cases h) (Nat.le_of_ble_eq_true rfl) (v := .agg #[.int .i64 a0.f0, .int .i64 a0.f1, .slice Aa0_f2 a0.f2.length ca0_f2, .slice Aa0_f3 a0.f3.length ca0_f3]) (by kernel_rfl)) ?_
              rw [Option.bind_eq_some_iff] at h
              obtain ⟨t61, ht62, h⟩ := h
              refine WA.op (i := 5) (m := 14) (b' := 63) (by kernel_rfl) hS (by kernel_rfl) (op := .call { callee := (.value (.func 20)), args := #[(.tmp 56)], argTypes := #[25] }) (ty := 4) (d := some 57) (g := some (3, true)) (by kernel_rfl) (by kernel_rfl) (by kernel_rfl) (Does.call (f := 20) (args := [.agg #[.int .i64 a0.f0, .int .i64 a0.f1, .slice Aa0_f2 a0.f2.length ca0_f2, .slice Aa0_f3 a0.f3.length ca0_f3]]) (by kernel_rfl) (fun W hI => (grapevinelaw15_filtered_calls k a0 Aa0_f2 ca0_f2 Ha0_f2 Aa0_f3 ca0_f3 Ha0_f3 t61 ht62 hI))) ?_
              rintro _ _ _ ⟨rfl, rfl, rfl⟩
              refine ⟨_, _, Under.refl, Under.refl, ?_⟩
              refine WA.pure [6] [3, 4, 5, 55, 58] (m := 13) (b' := 127) (L' := [(3, .pointer (some ⟨b1, 0, none⟩)), (4, .pointer (some ⟨b2, 0, none⟩)), (5, .pointer (some ⟨b3, 0, none⟩)), (55, .bool true), (58, .bool t61)]) (by kernel_rfl) (NoPanic.then (NoPanic.body)) Under.refl hS (by kernel_rfl) ?_
              refine WA.split 58 (b := t61) (by kernel_rfl) (fun hc => ?_) (fun hc => ?_)
              · replace hc := hc
                rw [if_pos hc] at h
                have hc65 := hc
                clear hc
                refine WA.pure [7, 8, 9, 10, 11, 12, 13, 14, 15, 16] [68] (m := 3) (b' := 131071) (L' := [(68, .bool true)]) (by kernel_rfl) (NoPanic.then (NoPanic.body)) Under.refl hS (by kernel_rfl) ?_
                rw [Option.bind_eq_some_iff] at h
                obtain ⟨t66, ht67, h⟩ := h
                refine WA.op (i := 17) (m := 2) (b' := 262143) (by kernel_rfl) hS (by kernel_rfl) (op := .call { callee := (.value (.func 11)), args := #[], argTypes := #[] }) (ty := 4) (d := some 69) (g := some (16, true)) (by kernel_rfl) (by kernel_rfl) (by kernel_rfl) (Does.call (f := 11) (args := []) (by kernel_rfl) (fun W hI => (grapevinelaw15_awake_calls HT k   t66 ht67 hI))) ?_
                rintro _ _ _ ⟨rfl, rfl, rfl⟩
                refine ⟨_, _, Under.refl, Under.refl, ?_⟩
                refine WA.pure [18, 19] [6] (m := 0) (b' := 1048575) (L' := [(6, .bool t66)]) (by kernel_rfl) (NoPanic.then (NoPanic.body)) Under.refl hS (by kernel_rfl) ?_
                refine WA.done hS (by kernel_rfl) ?_
                refine QP.pick [6] ?_
                refine QP.dropAt 3 ?_
                refine QP.dropAt 2 ?_
                refine QP.dropAt 1 ?_
                refine QP.dropAt 0 ?_
                refine QP.pick [6] ?_
                exact QP.meet ⟨_, Option.some.inj h, rfl, rfl, rfl⟩
              · replace hc := (Bool.eq_false_iff.1 hc)
                rw [if_neg hc] at h
                have hc65 := hc
                clear hc
                refine WA.tellD [] (i := 7) (m := 12) (b' := 255) (by kernel_rfl) (NoPanic.then (NoPanic.body)) Under.refl hS (by kernel_rfl) (op := .load 25 (.tmp 3)) (ty := 25) (d := some 59) (g := some (6, false)) (by kernel_rfl) (by kernel_rfl) (by kernel_rfl) (Tells.load_box (i := 3) (b := b1) (o := 0) (agg := true) (by rfl) ag25 (by kernel_rfl) (fun h => by cases h) (Nat.le_of_ble_eq_true rfl) (v := .agg #[.int .i64 a0.f0, .int .i64 a0.f1, .slice Aa0_f2 a0.f2.length ca0_f2, .slice Aa0_f3 a0.f3.length ca0_f3]) (by kernel_rfl)) ?_
                refine WA.tellD [] (i := 8) (m := 11) (b' := 511) (by kernel_rfl) (NoPanic.then (NoPanic.body)) Under.refl hS (by kernel_rfl) (op := .load 31 (.tmp 4)) (ty := 31) (d := some 60) (g := some (6, false)) (by kernel_rfl) (by kernel_rfl) (by kernel_rfl) (Tells.load_box (i := 2) (b := b2) (o := 0) (agg := true) (by rfl) ag31 (by kernel_rfl) (fun h => by cases h) (Nat.le_of_ble_eq_true rfl) (v := .agg #[.int .i64 a1.f0, .int .i64 a1.f1, .int .i64 a1.f2, .int .i64 a1.f3, .string a1.f4]) (by kernel_rfl)) ?_
                refine WA.tellD [] (i := 10) (m := 10) (b' := 1535) (by kernel_rfl) (NoPanic.then (NoPanic.body)) Under.refl hS (by kernel_rfl) (op := .load 25 (.tmp 3)) (ty := 25) (d := some 62) (g := some (6, false)) (by kernel_rfl) (by kernel_rfl) (by kernel_rfl) (Tells.load_box (i := 3) (b := b1) (o := 0) (agg := true) (by rfl) ag25 (by kernel_rfl) (fun h => by cases h) (Nat.le_of_ble_eq_true rfl) (v := .agg #[.int .i64 a0.f0, .int .i64 a0.f1, .slice Aa0_f2 a0.f2.length ca0_f2, .slice Aa0_f3 a0.f3.length ca0_f3]) (by kernel_rfl)) ?_
                refine WA.tellD [] (i := 11) (m := 9) (b' := 3583) (by kernel_rfl) (NoPanic.then (NoPanic.body)) Under.refl hS (by kernel_rfl) (op := .load 31 (.tmp 5)) (ty := 31) (d := some 63) (g := some (6, false)) (by kernel_rfl) (by kernel_rfl) (by kernel_rfl) (Tells.load_box (i := 1) (b := b3) (o := 0) (agg := true) (by rfl) ag31 (by kernel_rfl) (fun h => by cases h) (Nat.le_of_ble_eq_true rfl) (v := .agg #[.int .i64 a2.f0, .int .i64 a2.f1, .int .i64 a2.f2, .int .i64 a2.f3, .string a1.f4]) (by kernel_rfl)) ?_
                rw [Option.bind_eq_some_iff] at h
                obtain ⟨t70, ht71, h⟩ := h
                refine WA.op (i := 9) (m := 8) (b' := 4095) (by kernel_rfl) hS (by kernel_rfl) (op := .call { callee := (.value (.func 12)), args := #[(.tmp 59), (.tmp 60)], argTypes := #[25, 31] }) (ty := 4) (d := some 61) (g := some (6, false)) (by kernel_rfl) (by kernel_rfl) (by kernel_rfl) (Does.call (f := 12) (args := [.agg #[.int .i64 a0.f0, .int .i64 a0.f1, .slice Aa0_f2 a0.f2.length ca0_f2, .slice Aa0_f3 a0.f3.length ca0_f3], .agg #[.int .i64 a1.f0, .int .i64 a1.f1, .int .i64 a1.f2, .int .i64 a1.f3, .string a1.f4]]) (by kernel_rfl) (fun W hI => (deem_Holds_calls HT k a0 a1 Aa0_f2 ca0_f2 Ha0_f2 Aa0_f3 ca0_f3 Ha0_f3 t70 ht71 hI))) ?_
                rintro _ _ _ ⟨rfl, rfl, rfl⟩
                refine ⟨_, _, Under.refl, Under.refl, ?_⟩
                rw [Option.bind_eq_some_iff] at h
                obtain ⟨t74, ht75, h⟩ := h
                refine WA.op (i := 12) (m := 7) (b' := 8191) (by kernel_rfl) hS (by kernel_rfl) (op := .call { callee := (.value (.func 12)), args := #[(.tmp 62), (.tmp 63)], argTypes := #[25, 31] }) (ty := 4) (d := some 64) (g := some (6, false)) (by kernel_rfl) (by kernel_rfl) (by kernel_rfl) (Does.call (f := 12) (args := [.agg #[.int .i64 a0.f0, .int .i64 a0.f1, .slice Aa0_f2 a0.f2.length ca0_f2, .slice Aa0_f3 a0.f3.length ca0_f3], .agg #[.int .i64 a2.f0, .int .i64 a2.f1, .int .i64 a2.f2, .int .i64 a2.f3, .string a1.f4]]) (by kernel_rfl) (fun W hI => (deem_Holds_calls HT k a0 (⟨a2.f0, a2.f1, a2.f2, a2.f3, a1.f4⟩ : T31) Aa0_f2 ca0_f2 Ha0_f2 Aa0_f3 ca0_f3 Ha0_f3 t74 ht75 hI))) ?_
                rintro _ _ _ ⟨rfl, rfl, rfl⟩
                refine ⟨_, _, Under.refl, Under.refl, ?_⟩
                refine WA.pure [13, 14, 15, 16] [68] (m := 3) (b' := 131071) (L' := [(68, .bool (t70 == t74))]) (by kernel_rfl) (NoPanic.then (NoPanic.body)) Under.refl hS (by kernel_rfl) ?_
                refine WA.split 68 (b := (t70 == t74)) (by kernel_rfl) (fun hc => ?_) (fun hc => ?_)
                · replace hc := hc
                  rw [if_pos hc] at h
                  have hc78 := hc
                  clear hc
                  rw [Option.bind_eq_some_iff] at h
                  obtain ⟨t79, ht80, h⟩ := h
                  refine WA.op (i := 17) (m := 2) (b' := 262143) (by kernel_rfl) hS (by kernel_rfl) (op := .call { callee := (.value (.func 11)), args := #[], argTypes := #[] }) (ty := 4) (d := some 69) (g := some (16, true)) (by kernel_rfl) (by kernel_rfl) (by kernel_rfl) (Does.call (f := 11) (args := []) (by kernel_rfl) (fun W hI => (grapevinelaw15_awake_calls HT k   t79 ht80 hI))) ?_
                  rintro _ _ _ ⟨rfl, rfl, rfl⟩
                  refine ⟨_, _, Under.refl, Under.refl, ?_⟩
                  refine WA.pure [18, 19] [6] (m := 0) (b' := 1048575) (L' := [(6, .bool t79)]) (by kernel_rfl) (NoPanic.then (NoPanic.body)) Under.refl hS (by kernel_rfl) ?_
                  refine WA.done hS (by kernel_rfl) ?_
                  refine QP.pick [6] ?_
                  refine QP.dropAt 3 ?_
                  refine QP.dropAt 2 ?_
                  refine QP.dropAt 1 ?_
                  refine QP.dropAt 0 ?_
                  refine QP.pick [6] ?_
                  exact QP.meet ⟨_, Option.some.inj h, rfl, rfl, rfl⟩
                · replace hc := (Bool.eq_false_iff.1 hc)
                  rw [if_neg hc] at h
                  have hc78 := hc
                  clear hc
                  refine WA.pure [17, 18, 19] [6] (m := 0) (b' := 1048575) (L' := [(6, .bool false)]) (by kernel_rfl) (NoPanic.then (NoPanic.body)) Under.refl hS (by kernel_rfl) ?_
                  refine WA.done hS (by kernel_rfl) ?_
                  refine QP.pick [6] ?_
                  refine QP.dropAt 3 ?_
                  refine QP.dropAt 2 ?_
                  refine QP.dropAt 1 ?_
                  refine QP.dropAt 0 ?_
                  refine QP.pick [6] ?_
                  exact QP.meet ⟨_, Option.some.inj h, rfl, rfl, rfl⟩
            · replace hc := (Bool.eq_false_iff.1 hc)
              rw [if_neg hc] at h
              have hc60 := hc
              clear hc
              refine WA.pure [4, 5, 6, 7, 8, 9, 10, 11, 12, 13, 14, 15, 16, 17, 18, 19] [6] (m := 0) (b' := 1048575) (L' := [(6, .bool false)]) (by kernel_rfl) (NoPanic.then (NoPanic.body)) Under.refl hS (by kernel_rfl) ?_
              refine WA.done hS (by kernel_rfl) ?_
              refine QP.pick [6] ?_
              refine QP.dropAt 3 ?_
              refine QP.dropAt 2 ?_
              refine QP.dropAt 1 ?_
              refine QP.dropAt 0 ?_
              refine QP.pick [6] ?_
              exact QP.meet ⟨_, Option.some.inj h, rfl, rfl, rfl⟩
          · rintro _ _ _ ⟨s54, rfl, rfl, rfl, rfl⟩
            clear h
            replace h := hk55
            refine WP.ret ?_
            obtain rfl := Option.some.inj h
            exact QP.returned [6] [.bool s54] _ (by kernel_rfl) (by kernel_rfl) (by kernel_rfl) (fun W hI => ⟨_, _, _, rfl, ⟨rfl, rfl, rfl⟩, hI⟩)
/-- The plain law. -/
def DeemTexts_Pure : Prop := ∀ (a0 : T25) (a1 : T31) (a2 : T31), Ok25 a0 → ((Lit.int .i64 a1.f0).wf = true ∧ (Lit.int .i64 a1.f1).wf = true ∧ (Lit.int .i64 a1.f2).wf = true ∧ (Lit.int .i64 a1.f3).wf = true ∧ a1.f4.size ≤ maxLen) → ((Lit.int .i64 a2.f0).wf = true ∧ (Lit.int .i64 a2.f1).wf = true ∧ (Lit.int .i64 a2.f2).wf = true ∧ (Lit.int .i64 a2.f3).wf = true ∧ a2.f4.size ≤ maxLen) → ∃ k, grapevinelaw15_DeemTexts k a0 a1 a2 = some true
end Go.Proofs.YtbphlohiealbeaaDoor.Gf
