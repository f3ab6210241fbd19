/- Walks of Go functions: what each tells, as a plain Lean function, and that the Go code comes to it. Written by gg.py of this repo. -/
import Derived.Test.YtbphlohiealbeaaDoorT
import Derived.Test.YtbphlohiealbeaaDoorF0
import Derived.Test.YtbphlohiealbeaaDoorF1
namespace Go.Proofs.YtbphlohiealbeaaDoor.Gf
open Go Go.Gg
set_option maxRecDepth 100000
set_option linter.unusedVariables false
set_option linter.unusedSimpArgs false

/-! ### grapevine/grapevinelaw15.DeemLogic: function 4 -/
def grapevinelaw15_DeemLogic (k : Nat) (a0 : T25) (a1 : T25) (a2 : T31) : Option Bool := (((grapevinelaw0_GreatAsk k a0).bind fun t6 => (if t6 = true then some true else ((grapevinelaw0_GreatAsk k a1).bind fun t11 => (if t11 = true then some true else (if (a2.f4.size : Int) > 300 then some true else ((ask_May k a0).bind fun t17 => (if (!t17) = true then some true else ((ask_May k a1).bind fun t22 => (if (!t22) = true then some true else ((record_May a2).bind fun t27 => some (!t27))))))))))).bind fun s4 => (if s4 = true then ((grapevinelaw15_awake k ).bind fun t32 => some t32) else ((deem_Holds k a0 a2).bind fun t36 => ((deem_Holds k a1 a2).bind fun t40 => (((ask_May k (⟨9, 0, ([] : List ByteArray), ([a0] : List T25)⟩ : T25)).bind fun t62 => (if t62 = true then ((deem_Holds k (⟨9, 0, ([] : List ByteArray), ([a0] : List T25)⟩ : T25) a2).bind fun t68 => (if (t68 == t36) = true then some true else ((ask_May k (⟨7, 0, ([] : List ByteArray), ([a0, a1] : List T25)⟩ : T25)).bind fun t74 => (if t74 = true then ((deem_Holds k (⟨7, 0, ([] : List ByteArray), ([a0, a1] : List T25)⟩ : T25) a2).bind fun t80 => (if t36 = true then (if (!(t80 == t40)) = true then some true else ((ask_May k (⟨8, 0, ([] : List ByteArray), ([a0, a1] : List T25)⟩ : T25)).bind fun t87 => (if t87 = true then ((deem_Holds k (⟨8, 0, ([] : List ByteArray), ([a0, a1] : List T25)⟩ : T25) a2).bind fun t93 => (if t36 = true then some (!(t93 == true)) else some (!(t93 == t40)))) else some false))) else (if (!(t80 == false)) = true then some true else ((ask_May k (⟨8, 0, ([] : List ByteArray), ([a0, a1] : List T25)⟩ : T25)).bind fun t100 => (if t100 = true then ((deem_Holds k (⟨8, 0, ([] : List ByteArray), ([a0, a1] : List T25)⟩ : T25) a2).bind fun t106 => (if t36 = true then some (!(t106 == true)) else some (!(t106 == t40)))) else some false))))) else ((ask_May k (⟨8, 0, ([] : List ByteArray), ([a0, a1] : List T25)⟩ : T25)).bind fun t112 => (if t112 = true then ((deem_Holds k (⟨8, 0, ([] : List ByteArray), ([a0, a1] : List T25)⟩ : T25) a2).bind fun t118 => (if t36 = true then some (!(t118 == true)) else some (!(t118 == t40)))) else some false)))))) else ((ask_May k (⟨7, 0, ([] : List ByteArray), ([a0, a1] : List T25)⟩ : T25)).bind fun t124 => (if t124 = true then ((deem_Holds k (⟨7, 0, ([] : List ByteArray), ([a0, a1] : List T25)⟩ : T25) a2).bind fun t130 => (if t36 = true then (if (!(t130 == t40)) = true then some true else ((ask_May k (⟨8, 0, ([] : List ByteArray), ([a0, a1] : List T25)⟩ : T25)).bind fun t137 => (if t137 = true then ((deem_Holds k (⟨8, 0, ([] : List ByteArray), ([a0, a1] : List T25)⟩ : T25) a2).bind fun t143 => (if t36 = true then some (!(t143 == true)) else some (!(t143 == t40)))) else some false))) else (if (!(t130 == false)) = true then some true else ((ask_May k (⟨8, 0, ([] : List ByteArray), ([a0, a1] : List T25)⟩ : T25)).bind fun t150 => (if t150 = true then ((deem_Holds k (⟨8, 0, ([] : List ByteArray), ([a0, a1] : List T25)⟩ : T25) a2).bind fun t156 => (if t36 = true then some (!(t156 == true)) else some (!(t156 == t40)))) else some false))))) else ((ask_May k (⟨8, 0, ([] : List ByteArray), ([a0, a1] : List T25)⟩ : T25)).bind fun t162 => (if t162 = true then ((deem_Holds k (⟨8, 0, ([] : List ByteArray), ([a0, a1] : List T25)⟩ : T25) a2).bind fun t168 => (if t36 = true then some (!(t168 == true)) else some (!(t168 == t40)))) else some false)))))).bind fun s60 => (if s60 = true then some false else (((ask_May k (⟨9, 0, ([] : List ByteArray), ([(⟨7, 0, ([] : List ByteArray), ([a0, a1] : List T25)⟩ : T25)] : List T25)⟩ : T25)).bind fun t206 => (if (!t206) = true then ((grapevinelaw15_awake k ).bind fun t212 => some t212) else ((ask_May k (⟨8, 0, ([] : List ByteArray), ([(⟨9, 0, ([] : List ByteArray), ([a0] : List T25)⟩ : T25), (⟨9, 0, ([] : List ByteArray), ([a1] : List T25)⟩ : T25)] : List T25)⟩ : T25)).bind fun t216 => (if (!t216) = true then ((grapevinelaw15_awake k ).bind fun t222 => some t222) else ((deem_Holds k (⟨9, 0, ([] : List ByteArray), ([(⟨7, 0, ([] : List ByteArray), ([a0, a1] : List T25)⟩ : T25)] : List T25)⟩ : T25) a2).bind fun t226 => ((deem_Holds k (⟨8, 0, ([] : List ByteArray), ([(⟨9, 0, ([] : List ByteArray), ([a0] : List T25)⟩ : T25), (⟨9, 0, ([] : List ByteArray), ([a1] : List T25)⟩ : T25)] : List T25)⟩ : T25) a2).bind fun t231 => (if (t226 == t231) = true then ((grapevinelaw15_awake k ).bind fun t237 => some t237) else some false))))))).bind fun s204 => some s204)))))))
set_option maxHeartbeats 4000000 in
theorem grapevinelaw15_DeemLogic_calls {B : World} {G : GMap} {Γ : List Chunk} {W : World} (HT : Tabs B G) (k : Nat) (a0 : T25) (a1 : T25) (a2 : T31) (Aa0_f2 : Option Addr) (ca0_f2 : Nat) (Ha0_f2 : Rd kStr G Aa0_f2 ca0_f2 a0.f2) (Aa0_f3 : Option Addr) (ca0_f3 : Nat) (Ha0_f3 : Rd k25 G Aa0_f3 ca0_f3 a0.f3) (Aa1_f2 : Option Addr) (ca1_f2 : Nat) (Ha1_f2 : Rd kStr G Aa1_f2 ca1_f2 a1.f2) (Aa1_f3 : Option Addr) (ca1_f3 : Nat) (Ha1_f3 : Rd k25 G Aa1_f3 ca1_f3 a1.f3) (r : Bool) (h : grapevinelaw15_DeemLogic k a0 a1 a2 = some r) (hI : Inv B G (Γ) W) :
    Calls Tryd.prog 4 [.agg #[.int .i64 a0.f0, .int .i64 a0.f1, .slice Aa0_f2 a0.f2.length ca0_f2, .slice Aa0_f3 a0.f3.length ca0_f3], .agg #[.int .i64 a1.f0, .int .i64 a1.f1, .slice Aa1_f2 a1.f2.length ca1_f2, .slice Aa1_f3 a1.f3.length ca1_f3], .agg #[.int .i64 a2.f0, .int .i64 a2.f1, .int .i64 a2.f2, .int .i64 a2.f3, .string a2.f4]].toArray W (Ret B (fun v G' Γ' => v = .bool r ∧ G = G' ∧ Γ = Γ')) := by
  refine calls_WP (Γ := Γ) (G := G) (B := B) Tryd.func4 rfl (by kernel_rfl) ?_ hI
  clear hI
  unfold grapevinelaw15_DeemLogic at h
  refine WP.seqR ?_
  refine WL.op (op := .box 25 (.tmp 0)) (ty := 0) (d := some 3) (g := none) (by kernel_rfl) (by kernel_rfl) (by kernel_rfl) (Does.new (o := .cells #[.int .i64 a0.f0, .int .i64 a0.f1, .slice Aa0_f2 a0.f2.length ca0_f2, .slice Aa0_f3 a0.f3.length ca0_f3] 25 (0, 0)) (v := fun r => .pointer (some ⟨r, 0, none⟩)) (fun r => by kernel_rfl)) ?_
  rintro _ _ _ ⟨b1, rfl, rfl, rfl⟩
  refine WL.op (op := .box 25 (.tmp 1)) (ty := 0) (d := some 4) (g := none) (by kernel_rfl) (by kernel_rfl) (by kernel_rfl) (Does.new (o := .cells #[.int .i64 a1.f0, .int .i64 a1.f1, .slice Aa1_f2 a1.f2.length ca1_f2, .slice Aa1_f3 a1.f3.length ca1_f3] 25 (0, 0)) (v := fun r => .pointer (some ⟨r, 0, none⟩)) (fun r => by kernel_rfl)) ?_
  rintro _ _ _ ⟨b2, rfl, rfl, rfl⟩
  refine WL.op (op := .box 31 (.tmp 2)) (ty := 0) (d := some 5) (g := none) (by kernel_rfl) (by kernel_rfl) (by kernel_rfl) (Does.new (o := .cells #[.int .i64 a2.f0, .int .i64 a2.f1, .int .i64 a2.f2, .int .i64 a2.f3, .string a2.f4] 31 (0, 0)) (v := fun r => .pointer (some ⟨r, 0, none⟩)) (fun r => by kernel_rfl)) ?_
  rintro _ _ _ ⟨b3, rfl, rfl, rfl⟩
  refine WL.restQ 3 [3, 4, 5] (L' := [(3, .pointer (some ⟨b1, 0, none⟩)), (4, .pointer (some ⟨b2, 0, none⟩)), (5, .pointer (some ⟨b3, 0, none⟩))]) (by kernel_rfl) ?_
  refine WP.seq ?_
  rw [Option.bind_eq_some_iff] at h
  obtain ⟨os4, h, hk5⟩ := h
  refine WP.cut (fun L' G' Γ' => ∃ s4 : Bool, s4 = os4 ∧ L' = [(3, .pointer (some ⟨b1, 0, none⟩)), (4, .pointer (some ⟨b2, 0, none⟩)), (5, .pointer (some ⟨b3, 0, none⟩)), (41, .bool s4)] ∧ G = G' ∧ [(b3, .cells #[.int .i64 a2.f0, .int .i64 a2.f1, .int .i64 a2.f2, .int .i64 a2.f3, .string a2.f4] 31 (0, 0))] :: [(b2, .cells #[.int .i64 a1.f0, .int .i64 a1.f1, .slice Aa1_f2 a1.f2.length ca1_f2, .slice Aa1_f3 a1.f3.length ca1_f3] 25 (0, 0))] :: [(b1, .cells #[.int .i64 a0.f0, .int .i64 a0.f1, .slice Aa0_f2 a0.f2.length ca0_f2, .slice Aa0_f3 a0.f3.length ca0_f3] 25 (0, 0))] :: Γ = Γ') ?_ ?_
  · clear hk5
    refine WP.region ?_
    refine WL.tell (op := .load 25 (.tmp 3)) (ty := 25) (d := some 15) (g := none) (by kernel_rfl) (by kernel_rfl) (by kernel_rfl) (Tells.load_box (i := 2) (b := b1) (o := 0) (agg := true) (by rfl) ag25 (by kernel_rfl) (fun h => by cases h) (Nat.le_of_ble_eq_true rfl) (v := .agg #[.int .i64 a0.f0, .int .i64 a0.f1, .slice Aa0_f2 a0.f2.length ca0_f2, .slice Aa0_f3 a0.f3.length ca0_f3]) (by kernel_rfl)) ?_
    rw [Option.bind_eq_some_iff] at h
    obtain ⟨t6, ht7, h⟩ := h
    refine WL.op (op := .call { callee := (.value (.func 9)), args := #[(.tmp 15)], argTypes := #[25] }) (ty := 4) (d := some 16) (g := none) (by kernel_rfl) (by kernel_rfl) (by kernel_rfl) (Does.call (f := 9) (args := [.agg #[.int .i64 a0.f0, .int .i64 a0.f1, .slice Aa0_f2 a0.f2.length ca0_f2, .slice Aa0_f3 a0.f3.length ca0_f3]]) (by kernel_rfl) (fun W hI => (grapevinelaw0_GreatAsk_calls k a0 Aa0_f2 ca0_f2 Ha0_f2 Aa0_f3 ca0_f3 Ha0_f3 t6 ht7 hI))) ?_
    rintro _ _ _ ⟨rfl, rfl, rfl⟩
    refine WL.pure 2 3 [3, 4, 5, 17] (L' := [(3, .pointer (some ⟨b1, 0, none⟩)), (4, .pointer (some ⟨b2, 0, none⟩)), (5, .pointer (some ⟨b3, 0, none⟩)), (17, .bool t6)]) (by kernel_rfl) (by decide) ?_
    refine WL.split 17 (b := t6) (by kernel_rfl) (fun hc => ?_) (fun hc => ?_)
    · replace hc := hc
      rw [if_pos hc] at h
      have hc10 := hc
      clear hc
      refine WL.rest 3 [3, 4, 5, 41] (L' := [(3, .pointer (some ⟨b1, 0, none⟩)), (4, .pointer (some ⟨b2, 0, none⟩)), (5, .pointer (some ⟨b3, 0, none⟩)), (41, .bool true)]) (by kernel_rfl) ?_
      refine QP.pick [3, 4, 5, 41] ?_
      exact QP.meet ⟨_, Option.some.inj h, rfl, rfl, rfl⟩
    · replace hc := (Bool.eq_false_iff.1 hc)
      rw [if_neg hc] at h
      have hc10 := hc
      clear hc
      refine WL.tell (op := .load 25 (.tmp 4)) (ty := 25) (d := some 18) (g := some (2, false)) (by kernel_rfl) (by kernel_rfl) (by kernel_rfl) (Tells.load_box (i := 1) (b := b2) (o := 0) (agg := true) (by rfl) ag25 (by kernel_rfl) (fun h => by cases h) (Nat.le_of_ble_eq_true rfl) (v := .agg #[.int .i64 a1.f0, .int .i64 a1.f1, .slice Aa1_f2 a1.f2.length ca1_f2, .slice Aa1_f3 a1.f3.length ca1_f3]) (by kernel_rfl)) ?_
      rw [Option.bind_eq_some_iff] at h
      obtain ⟨t11, ht12, h⟩ := h
      refine WL.op (op := .call { callee := (.value (.func 9)), args := #[(.tmp 18)], argTypes := #[25] }) (ty := 4) (d := some 19) (g := some (2, false)) (by kernel_rfl) (by kernel_rfl) (by kernel_rfl) (Does.call (f := 9) (args := [.agg #[.int .i64 a1.f0, .int .i64 a1.f1, .slice Aa1_f2 a1.f2.length ca1_f2, .slice Aa1_f3 a1.f3.length ca1_f3]]) (by kernel_rfl) (fun W hI => (grapevinelaw0_GreatAsk_calls k a1 Aa1_f2 ca1_f2 Ha1_f2 Aa1_f3 ca1_f3 Ha1_f3 t11 ht12 hI))) ?_
      rintro _ _ _ ⟨rfl, rfl, rfl⟩
      refine WL.pure 5 7 [3, 4, 5, 21] (L' := [(3, .pointer (some ⟨b1, 0, none⟩)), (4, .pointer (some ⟨b2, 0, none⟩)), (5, .pointer (some ⟨b3, 0, none⟩)), (21, .bool t11)]) (by kernel_rfl) (by decide) ?_
      refine WL.split 21 (b := t11) (by kernel_rfl) (fun hc => ?_) (fun hc => ?_)
      · replace hc := hc
        rw [if_pos hc] at h
        have hc15 := hc
        clear hc
        refine WL.rest 7 [3, 4, 5, 41] (L' := [(3, .pointer (some ⟨b1, 0, none⟩)), (4, .pointer (some ⟨b2, 0, none⟩)), (5, .pointer (some ⟨b3, 0, none⟩)), (41, .bool true)]) (by kernel_rfl) ?_
        refine QP.pick [3, 4, 5, 41] ?_
        exact QP.meet ⟨_, Option.some.inj h, rfl, rfl, rfl⟩
      · replace hc := (Bool.eq_false_iff.1 hc)
        rw [if_neg hc] at h
        have hc15 := hc
        clear hc
        refine WL.pure 7 8 [3, 4, 5, 21, 22] (L' := [(3, .pointer (some ⟨b1, 0, none⟩)), (4, .pointer (some ⟨b2, 0, none⟩)), (5, .pointer (some ⟨b3, 0, none⟩)), (21, .bool false), (22, .pointer (some ⟨b3, 4, none⟩))]) (by kernel_rfl) (by decide) ?_
        refine WL.tell (op := .load 9 (.tmp 22)) (ty := 9) (d := some 23) (g := some (6, false)) (by kernel_rfl) (by kernel_rfl) (by kernel_rfl) (Tells.load_box (i := 0) (b := b3) (o := 4) (agg := false) (by rfl) ag9 (by kernel_rfl) (fun _ => rfl) (Nat.le_of_ble_eq_true rfl) (v := .string a2.f4) (by kernel_rfl)) ?_
        refine WL.pure 9 13 [3, 4, 5, 27] (L' := [(3, .pointer (some ⟨b1, 0, none⟩)), (4, .pointer (some ⟨b2, 0, none⟩)), (5, .pointer (some ⟨b3, 0, none⟩)), (27, .bool (decide ((a2.f4.size : Int) > 300)))]) (by kernel_rfl) (by decide) ?_
        refine WL.split 27 (b := decide ((a2.f4.size : Int) > 300)) (by kernel_rfl) (fun hc => ?_) (fun hc => ?_)
        · replace hc := of_decide_eq_true hc
          rw [if_pos hc] at h
          have hc16 := hc
          clear hc
          refine WL.rest 13 [3, 4, 5, 41] (L' := [(3, .pointer (some ⟨b1, 0, none⟩)), (4, .pointer (some ⟨b2, 0, none⟩)), (5, .pointer (some ⟨b3, 0, none⟩)), (41, .bool true)]) (by kernel_rfl) ?_
          refine QP.pick [3, 4, 5, 41] ?_
          exact QP.meet ⟨_, Option.some.inj h, rfl, rfl, rfl⟩
        · replace hc := of_decide_eq_false hc
          rw [if_neg hc] at h
          have hc16 := hc
          clear hc
          refine WL.tell (op := .load 25 (.tmp 3)) (ty := 25) (d := some 28) (g := some (12, false)) (by kernel_rfl) (by kernel_rfl) (by kernel_rfl) (Tells.load_box (i := 2) (b := b1) (o := 0) (agg := true) (by rfl) ag25 (by kernel_rfl) (fun h => by cases h) (Nat.le_of_ble_eq_true rfl) (v := .agg #[.int .i64 a0.f0, .int .i64 a0.f1, .slice Aa0_f2 a0.f2.length ca0_f2, .slice Aa0_f3 a0.f3.length ca0_f3]) (by kernel_rfl)) ?_
          rw [Option.bind_eq_some_iff] at h
          obtain ⟨t17, ht18, h⟩ := h
          refine WL.op (op := .call { callee := (.value (.func 16)), args := #[(.tmp 28)], argTypes := #[25] }) (ty := 4) (d := some 29) (g := some (12, false)) (by kernel_rfl) (by kernel_rfl) (by kernel_rfl) (Does.call (f := 16) (args := [.agg #[.int .i64 a0.f0, .int .i64 a0.f1, .slice Aa0_f2 a0.f2.length ca0_f2, .slice Aa0_f3 a0.f3.length ca0_f3]]) (by kernel_rfl) (fun W hI => (ask_May_calls HT k a0 Aa0_f2 ca0_f2 Ha0_f2 Aa0_f3 ca0_f3 Ha0_f3 t17 ht18 hI))) ?_
          rintro _ _ _ ⟨rfl, rfl, rfl⟩
          refine WL.pure 15 18 [3, 4, 5, 32] (L' := [(3, .pointer (some ⟨b1, 0, none⟩)), (4, .pointer (some ⟨b2, 0, none⟩)), (5, .pointer (some ⟨b3, 0, none⟩)), (32, .bool (!t17))]) (by kernel_rfl) (by decide) ?_
          refine WL.split 32 (b := (!t17)) (by kernel_rfl) (fun hc => ?_) (fun hc => ?_)
          · replace hc := hc
            rw [if_pos hc] at h
            have hc21 := hc
            clear hc
            refine WL.rest 18 [3, 4, 5, 41] (L' := [(3, .pointer (some ⟨b1, 0, none⟩)), (4, .pointer (some ⟨b2, 0, none⟩)), (5, .pointer (some ⟨b3, 0, none⟩)), (41, .bool true)]) (by kernel_rfl) ?_
            refine QP.pick [3, 4, 5, 41] ?_
            exact QP.meet ⟨_, Option.some.inj h, rfl, rfl, rfl⟩
          · replace hc := (Bool.eq_false_iff.1 hc)
            rw [if_neg hc] at h
            have hc21 := hc
            clear hc
            refine WL.tell (op := .load 25 (.tmp 4)) (ty := 25) (d := some 33) (g := some (17, false)) (by kernel_rfl) (by kernel_rfl) (by kernel_rfl) (Tells.load_box (i := 1) (b := b2) (o := 0) (agg := true) (by rfl) ag25 (by kernel_rfl) (fun h => by cases h) (Nat.le_of_ble_eq_true rfl) (v := .agg #[.int .i64 a1.f0, .int .i64 a1.f1, .slice Aa1_f2 a1.f2.length ca1_f2, .slice Aa1_f3 a1.f3.length ca1_f3]) (by kernel_rfl)) ?_
            rw [Option.bind_eq_some_iff] at h
            obtain ⟨t22, ht23, h⟩ := h
            refine WL.op (op := .call { callee := (.value (.func 16)), args := #[(.tmp 33)], argTypes := #[25] }) (ty := 4) (d := some 34) (g := some (17, false)) (by kernel_rfl) (by kernel_rfl) (by kernel_rfl) (Does.call (f := 16) (args := [.agg #[.int .i64 a1.f0, .int .i64 a1.f1, .slice Aa1_f2 a1.f2.length ca1_f2, .slice Aa1_f3 a1.f3.length ca1_f3]]) (by kernel_rfl) (fun W hI => (ask_May_calls HT k a1 Aa1_f2 ca1_f2 Ha1_f2 Aa1_f3 ca1_f3 Ha1_f3 t22 ht23 hI))) ?_
            rintro _ _ _ ⟨rfl, rfl, rfl⟩
            refine WL.pure 20 23 [3, 4, 5, 37] (L' := [(3, .pointer (some ⟨b1, 0, none⟩)), (4, .pointer (some ⟨b2, 0, none⟩)), (5, .pointer (some ⟨b3, 0, none⟩)), (37, .bool (!t22))]) (by kernel_rfl) (by decide) ?_
            refine WL.split 37 (b := (!t22)) (by kernel_rfl) (fun hc => ?_) (fun hc => ?_)
            · replace hc := hc
              rw [if_pos hc] at h
              have hc26 := hc
              clear hc
              refine WL.rest 23 [3, 4, 5, 41] (L' := [(3, .pointer (some ⟨b1, 0, none⟩)), (4, .pointer (some ⟨b2, 0, none⟩)), (5, .pointer (some ⟨b3, 0, none⟩)), (41, .bool true)]) (by kernel_rfl) ?_
              refine QP.pick [3, 4, 5, 41] ?_
              exact QP.meet ⟨_, Option.some.inj h, rfl, rfl, rfl⟩
            · replace hc := (Bool.eq_false_iff.1 hc)
              rw [if_neg hc] at h
              have hc26 := hc
              clear hc
              refine WL.tell (op := .load 31 (.tmp 5)) (ty := 31) (d := some 38) (g := some (22, false)) (by kernel_rfl) (by kernel_rfl) (by kernel_rfl) (Tells.load_box (i := 0) (b := b3) (o := 0) (agg := true) (by rfl) ag31 (by kernel_rfl) (fun h => by cases h) (Nat.le_of_ble_eq_true rfl) (v := .agg #[.int .i64 a2.f0, .int .i64 a2.f1, .int .i64 a2.f2, .int .i64 a2.f3, .string a2.f4]) (by kernel_rfl)) ?_
              rw [Option.bind_eq_some_iff] at h
              obtain ⟨t27, ht28, h⟩ := h
              refine WL.op (op := .call { callee := (.value (.func 17)), args := #[(.tmp 38)], argTypes := #[31] }) (ty := 4) (d := some 39) (g := some (22, false)) (by kernel_rfl) (by kernel_rfl) (by kernel_rfl) (Does.call (f := 17) (args := [.agg #[.int .i64 a2.f0, .int .i64 a2.f1, .int .i64 a2.f2, .int .i64 a2.f3, .string a2.f4]]) (by kernel_rfl) (fun W hI => (record_May_calls HT a2  t27 ht28 hI))) ?_
              rintro _ _ _ ⟨rfl, rfl, rfl⟩
              refine WL.rest 25 [3, 4, 5, 41] (L' := [(3, .pointer (some ⟨b1, 0, none⟩)), (4, .pointer (some ⟨b2, 0, none⟩)), (5, .pointer (some ⟨b3, 0, none⟩)), (41, .bool (!t27))]) (by kernel_rfl) ?_
              refine QP.pick [3, 4, 5, 41] ?_
              exact QP.meet ⟨_, Option.some.inj h, rfl, rfl, rfl⟩
  · rintro _ _ _ ⟨s4, rfl, rfl, rfl, rfl⟩
    clear h
    replace h := hk5
    refine WP.cond (b := s4) (by kernel_rfl) (fun hc => ?_) (fun hc => ?_)
    · replace hc := hc
      rw [if_pos hc] at h
      have hc31 := hc
      clear hc
      refine WP.seqR ?_
      rw [Option.bind_eq_some_iff] at h
      obtain ⟨t32, ht33, h⟩ := h
      refine WL.op (op := .call { callee := (.value (.func 11)), args := #[], argTypes := #[] }) (ty := 4) (d := some 42) (g := none) (by kernel_rfl) (by kernel_rfl) (by kernel_rfl) (Does.call (f := 11) (args := []) (by kernel_rfl) (fun W hI => (grapevinelaw15_awake_calls HT k   t32 ht33 hI))) ?_
      rintro _ _ _ ⟨rfl, rfl, rfl⟩
      refine WL.restQ 1 [6] (L' := [(6, .bool t32)]) (by kernel_rfl) ?_
      refine WP.dropAt 2 ?_
      refine WP.dropAt 1 ?_
      refine WP.dropAt 0 ?_
      refine WP.ret ?_
      refine QP.thenR ?_
      obtain rfl := Option.some.inj h
      exact QP.returned [6] [.bool t32] _ (by kernel_rfl) (by kernel_rfl) (by kernel_rfl) (fun W hI => ⟨_, _, _, rfl, ⟨rfl, rfl, rfl⟩, hI⟩)
    · replace hc := (Bool.eq_false_iff.1 hc)
      rw [if_neg hc] at h
      have hc31 := hc
      clear hc
      refine WP.skip ?_
      refine QP.next ?_
      refine WP.pick [3, 4, 5] ?_
      refine WP.seq ?_
      refine WP.any (N := 8) (S := [⟨some 43, [3], []⟩, ⟨some 44, [5], []⟩, ⟨some 45, [43, 44], [0, 1]⟩, ⟨some 46, [4], []⟩, ⟨some 47, [5], []⟩, ⟨some 48, [46, 47], [2, 3, 4]⟩, ⟨some 7, [45], [0, 1, 2, 5]⟩, ⟨some 8, [48], [0, 1, 2, 3, 4, 5, 6]⟩]) (kw := 8) (G0 := G) (Γ0 := [(b3, .cells #[.int .i64 a2.f0, .int .i64 a2.f1, .int .i64 a2.f2, .int .i64 a2.f3, .string a2.f4] 31 (0, 0))] :: [(b2, .cells #[.int .i64 a1.f0, .int .i64 a1.f1, .slice Aa1_f2 a1.f2.length ca1_f2, .slice Aa1_f3 a1.f3.length ca1_f3] 25 (0, 0))] :: [(b1, .cells #[.int .i64 a0.f0, .int .i64 a0.f1, .slice Aa0_f2 a0.f2.length ca0_f2, .slice Aa0_f3 a0.f3.length ca0_f3] 25 (0, 0))] :: Γ) mo (by kernel_rfl) (fun hS => ?_)
      refine WA.tellD [] (i := 0) (m := 7) (b' := 1) (by kernel_rfl) (NoPanic.then (NoPanic.body)) Under.refl hS (by kernel_rfl) (op := .load 25 (.tmp 3)) (ty := 25) (d := some 43) (g := none) (by kernel_rfl) (by kernel_rfl) (by kernel_rfl) (Tells.load_box (i := 2) (b := b1) (o := 0) (agg := true) (by rfl) ag25 (by kernel_rfl) (fun h => by cases h) (Nat.le_of_ble_eq_true rfl) (v := .agg #[.int .i64 a0.f0, .int .i64 a0.f1, .slice Aa0_f2 a0.f2.length ca0_f2, .slice Aa0_f3 a0.f3.length ca0_f3]) (by kernel_rfl)) ?_
      refine WA.tellD [] (i := 1) (m := 6) (b' := 3) (by kernel_rfl) (NoPanic.then (NoPanic.body)) Under.refl hS (by kernel_rfl) (op := .load 31 (.tmp 5)) (ty := 31) (d := some 44) (g := none) (by kernel_rfl) (by kernel_rfl) (by kernel_rfl) (Tells.load_box (i := 0) (b := b3) (o := 0) (agg := true) (by rfl) ag31 (by kernel_rfl) (fun h => by cases h) (Nat.le_of_ble_eq_true rfl) (v := .agg #[.int .i64 a2.f0, .int .i64 a2.f1, .int .i64 a2.f2, .int .i64 a2.f3, .string a2.f4]) (by kernel_rfl)) ?_
      refine WA.tellD [] (i := 3) (m := 5) (b' := 11) (by kernel_rfl) (NoPanic.then (NoPanic.body)) Under.refl hS (by kernel_rfl) (op := .load 25 (.tmp 4)) (ty := 25) (d := some 46) (g := none) (by kernel_rfl) (by kernel_rfl) (by kernel_rfl) (Tells.load_box (i := 1) (b := b2) (o := 0) (agg := true) (by rfl) ag25 (by kernel_rfl) (fun h => by cases h) (Nat.le_of_ble_eq_true rfl) (v := .agg #[.int .i64 a1.f0, .int .i64 a1.f1, .slice Aa1_f2 a1.f2.length ca1_f2, .slice Aa1_f3 a1.f3.length ca1_f3]) (by kernel_rfl)) ?_
      refine WA.tellD [] (i := 4) (m := 4) (b' := 27) (by kernel_rfl) (NoPanic.then (NoPanic.body)) Under.refl hS (by kernel_rfl) (op := .load 31 (.tmp 5)) (ty := 31) (d := some 47) (g := none) (by kernel_rfl) (by kernel_rfl) (by kernel_rfl) (Tells.load_box (i := 0) (b := b3) (o := 0) (agg := true) (by rfl) ag31 (by kernel_rfl) (fun h => by cases h) (Nat.le_of_ble_eq_true rfl) (v := .agg #[.int .i64 a2.f0, .int .i64 a2.f1, .int .i64 a2.f2, .int .i64 a2.f3, .string a2.f4]) (by kernel_rfl)) ?_
      rw [Option.bind_eq_some_iff] at h
      obtain ⟨t36, ht37, h⟩ := h
      refine WA.op (i := 2) (m := 3) (b' := 31) (by kernel_rfl) hS (by kernel_rfl) (op := .call { callee := (.value (.func 12)), args := #[(.tmp 43), (.tmp 44)], argTypes := #[25, 31] }) (ty := 4) (d := some 45) (g := none) (by kernel_rfl) (by kernel_rfl) (by kernel_rfl) (Does.call (f := 12) (args := [.agg #[.int .i64 a0.f0, .int .i64 a0.f1, .slice Aa0_f2 a0.f2.length ca0_f2, .slice Aa0_f3 a0.f3.length ca0_f3], .agg #[.int .i64 a2.f0, .int .i64 a2.f1, .int .i64 a2.f2, .int .i64 a2.f3, .string a2.f4]]) (by kernel_rfl) (fun W hI => (deem_Holds_calls HT k a0 a2 Aa0_f2 ca0_f2 Ha0_f2 Aa0_f3 ca0_f3 Ha0_f3 t36 ht37 hI))) ?_
      rintro _ _ _ ⟨rfl, rfl, rfl⟩
      refine ⟨_, _, Under.refl, Under.refl, ?_⟩
      rw [Option.bind_eq_some_iff] at h
      obtain ⟨t40, ht41, h⟩ := h
      refine WA.op (i := 5) (m := 2) (b' := 63) (by kernel_rfl) hS (by kernel_rfl) (op := .call { callee := (.value (.func 12)), args := #[(.tmp 46), (.tmp 47)], argTypes := #[25, 31] }) (ty := 4) (d := some 48) (g := none) (by kernel_rfl) (by kernel_rfl) (by kernel_rfl) (Does.call (f := 12) (args := [.agg #[.int .i64 a1.f0, .int .i64 a1.f1, .slice Aa1_f2 a1.f2.length ca1_f2, .slice Aa1_f3 a1.f3.length ca1_f3], .agg #[.int .i64 a2.f0, .int .i64 a2.f1, .int .i64 a2.f2, .int .i64 a2.f3, .string a2.f4]]) (by kernel_rfl) (fun W hI => (deem_Holds_calls HT k a1 a2 Aa1_f2 ca1_f2 Ha1_f2 Aa1_f3 ca1_f3 Ha1_f3 t40 ht41 hI))) ?_
      rintro _ _ _ ⟨rfl, rfl, rfl⟩
      refine ⟨_, _, Under.refl, Under.refl, ?_⟩
      refine WA.pure [6, 7] [3, 4, 5, 7, 8] (m := 0) (b' := 255) (L' := [(3, .pointer (some ⟨b1, 0, none⟩)), (4, .pointer (some ⟨b2, 0, none⟩)), (5, .pointer (some ⟨b3, 0, none⟩)), (7, .bool t36), (8, .bool t40)]) (by kernel_rfl) (NoPanic.then (NoPanic.body)) Under.refl hS (by kernel_rfl) ?_
      refine WA.done hS (by kernel_rfl) ?_
      refine QP.pick [3, 4, 5, 7, 8] ?_
      refine QP.next ?_
      refine WP.seq ?_
      refine WP.any (N := 10) (S := [⟨some 49, [3], []⟩, ⟨some 50, [49], [0]⟩, ⟨some 51, [50], [1]⟩, ⟨some 52, [4], []⟩, ⟨some 53, [52], [3]⟩, ⟨some 54, [53], [4]⟩, ⟨some 9, [], []⟩, ⟨some 10, [], []⟩, ⟨none, [9, 51], [0, 1, 2, 6, 7]⟩, ⟨none, [10, 54], [0, 1, 2, 3, 4, 5, 6, 7, 8]⟩]) (kw := 10) (G0 := G) (Γ0 := [[(b2, .cells #[.int .i64 a1.f0, .int .i64 a1.f1, .slice Aa1_f2 a1.f2.length ca1_f2, .slice Aa1_f3 a1.f3.length ca1_f3] 25 (0, 0))], [(b1, .cells #[.int .i64 a0.f0, .int .i64 a0.f1, .slice Aa0_f2 a0.f2.length ca0_f2, .slice Aa0_f3 a0.f3.length ca0_f3] 25 (0, 0))]]) mo (by kernel_rfl) (fun hS => ?_)
      refine WA.junc4 1 511 (fun b50 b51 b47 b44 => [(3, .pointer (some ⟨b1, 0, none⟩)), (4, .pointer (some ⟨b2, 0, none⟩)), (5, .pointer (some ⟨b3, 0, none⟩)), (7, .bool t36), (8, .bool t40), (9, .pointer (some ⟨b50, 0, none⟩)), (10, .pointer (some ⟨b51, 0, none⟩)), (54, .agg #[.int .i64 9, .int .i64 0, .slice none 0 0, .slice (some ⟨b47, 0, none⟩) ([a1] : List T25).length 1])]) (fun b50 b51 b47 b44 => [(b51, .cells #[.int .i64 0, .int .i64 0, .slice none 0 0, .slice none 0 0] 25 (0, 0))] :: [(b50, .cells #[.int .i64 9, .int .i64 0, .slice none 0 0, .slice (some ⟨b44, 0, none⟩) ([a0] : List T25).length 1] 25 (0, 0))] :: [(b47, .cells #[.int .i64 a1.f0, .int .i64 a1.f1, .slice Aa1_f2 a1.f2.length ca1_f2, .slice Aa1_f3 a1.f3.length ca1_f3] 25 (0, 0))] :: [(b44, .cells #[.int .i64 a0.f0, .int .i64 a0.f1, .slice Aa0_f2 a0.f2.length ca0_f2, .slice Aa0_f3 a0.f3.length ca0_f3] 25 (0, 0))] :: [(b3, .cells #[.int .i64 a2.f0, .int .i64 a2.f1, .int .i64 a2.f2, .int .i64 a2.f3, .string a2.f4] 31 (0, 0))] :: [(b2, .cells #[.int .i64 a1.f0, .int .i64 a1.f1, .slice Aa1_f2 a1.f2.length ca1_f2, .slice Aa1_f3 a1.f3.length ca1_f3] 25 (0, 0))] :: [(b1, .cells #[.int .i64 a0.f0, .int .i64 a0.f1, .slice Aa0_f2 a0.f2.length ca0_f2, .slice Aa0_f3 a0.f3.length ca0_f3] 25 (0, 0))] :: Γ) (fun b50 b51 b47 b44 => ?_) (fun J511 => ?_)
      · refine WA.op (i := 9) (m := 0) (b' := 1023) (by kernel_rfl) hS (by kernel_rfl) (op := .store 25 (.tmp 10) (.tmp 54)) (ty := 0) (d := none) (g := none) (by kernel_rfl) (by kernel_rfl) (by kernel_rfl) (Does.store_box (i := 0) (b := b51) (o := 0) (v := .agg #[.int .i64 9, .int .i64 0, .slice none 0 0, .slice (some ⟨b47, 0, none⟩) ([a1] : List T25).length 1]) (by rfl) sz25 (by kernel_rfl) (by kernel_rfl) (by kernel_rfl) (Free.zero _) (Nat.le_of_ble_eq_true rfl) (cells' := #[.int .i64 9, .int .i64 0, .slice none 0 0, .slice (some ⟨b47, 0, none⟩) ([a1] : List T25).length 1]) (by kernel_rfl)) ?_
        rintro _ _ _ ⟨rfl, rfl, rfl⟩
        refine ⟨_, _, Under.refl, (Under.subl (by repeat first | exact List.nil_sublist _ | apply List.Sublist.cons_cons | apply List.Sublist.cons)), ?_⟩
        refine WA.done hS (by kernel_rfl) ?_
        refine QP.pick [3, 4, 5, 7, 8, 9, 10] ?_
        refine QP.next ?_
        refine WP.seqR ?_
        refine WL.tell (op := .load 25 (.tmp 3)) (ty := 25) (d := some 55) (g := none) (by kernel_rfl) (by kernel_rfl) (by kernel_rfl) (Tells.load_box (i := 6) (b := b1) (o := 0) (agg := true) (by rfl) ag25 (by kernel_rfl) (fun h => by cases h) (Nat.le_of_ble_eq_true rfl) (v := .agg #[.int .i64 a0.f0, .int .i64 a0.f1, .slice Aa0_f2 a0.f2.length ca0_f2, .slice Aa0_f3 a0.f3.length ca0_f3]) (by kernel_rfl)) ?_
        refine WL.tell (op := .load 25 (.tmp 4)) (ty := 25) (d := some 56) (g := none) (by kernel_rfl) (by kernel_rfl) (by kernel_rfl) (Tells.load_box (i := 5) (b := b2) (o := 0) (agg := true) (by rfl) ag25 (by kernel_rfl) (fun h => by cases h) (Nat.le_of_ble_eq_true rfl) (v := .agg #[.int .i64 a1.f0, .int .i64 a1.f1, .slice Aa1_f2 a1.f2.length ca1_f2, .slice Aa1_f3 a1.f3.length ca1_f3]) (by kernel_rfl)) ?_
        refine WL.op (op := .buildSlice 23 2 #[(0, (.tmp 55)), (1, (.tmp 56))]) (ty := 23) (d := some 57) (g := none) (by kernel_rfl) (by kernel_rfl) (by kernel_rfl) (Does.new (o := .cells #[.int .i64 a0.f0, .int .i64 a0.f1, .slice Aa0_f2 a0.f2.length ca0_f2, .slice Aa0_f3 a0.f3.length ca0_f3, .int .i64 a1.f0, .int .i64 a1.f1, .slice Aa1_f2 a1.f2.length ca1_f2, .slice Aa1_f3 a1.f3.length ca1_f3] 25 (0, 0)) (v := fun r => .slice (some ⟨r, 0, none⟩) 2 2) (fun r => by kernel_rfl)) ?_
        rintro _ _ _ ⟨b52, rfl, rfl, rfl⟩
        have Ho54 : Ow k25 G (some ⟨b52, 0, none⟩) 2 ([a0, a1] : List T25) [(b52, .cells #[.int .i64 a0.f0, .int .i64 a0.f1, .slice Aa0_f2 a0.f2.length ca0_f2, .slice Aa0_f3 a0.f3.length ca0_f3, .int .i64 a1.f0, .int .i64 a1.f1, .slice Aa1_f2 a1.f2.length ca1_f2, .slice Aa1_f3 a1.f3.length ca1_f3] 25 (0, 0))] := Ow.lit (kd := k25) (G := G) (b := b52) (T := 25) (xs := ([a0, a1] : List T25)) (cs := [.int .i64 a0.f0, .int .i64 a0.f1, .slice Aa0_f2 a0.f2.length ca0_f2, .slice Aa0_f3 a0.f3.length ca0_f3, .int .i64 a1.f0, .int .i64 a1.f1, .slice Aa1_f2 a1.f2.length ca1_f2, .slice Aa1_f3 a1.f3.length ca1_f3]) (.cons (x := a0) (cs := [.int .i64 a0.f0, .int .i64 a0.f1, .slice Aa0_f2 a0.f2.length ca0_f2, .slice Aa0_f3 a0.f3.length ca0_f3]) (k25_in ⟨[.int .i64 a0.f0], _, rfl, rfl, ⟨[.int .i64 a0.f1], _, rfl, rfl, ⟨[.slice Aa0_f2 a0.f2.length ca0_f2], _, rfl, ⟨Aa0_f2, ca0_f2, rfl, Ha0_f2⟩, ⟨Aa0_f3, ca0_f3, rfl, Ha0_f3⟩⟩⟩⟩) (.cons (x := a1) (cs := [.int .i64 a1.f0, .int .i64 a1.f1, .slice Aa1_f2 a1.f2.length ca1_f2, .slice Aa1_f3 a1.f3.length ca1_f3]) (k25_in ⟨[.int .i64 a1.f0], _, rfl, rfl, ⟨[.int .i64 a1.f1], _, rfl, rfl, ⟨[.slice Aa1_f2 a1.f2.length ca1_f2], _, rfl, ⟨Aa1_f2, ca1_f2, rfl, Ha1_f2⟩, ⟨Aa1_f3, ca1_f3, rfl, Ha1_f3⟩⟩⟩⟩) .nil))
        refine WL.pure 3 4 [3, 4, 5, 7, 8, 9, 10, 58] (L' := [(3, .pointer (some ⟨b1, 0, none⟩)), (4, .pointer (some ⟨b2, 0, none⟩)), (5, .pointer (some ⟨b3, 0, none⟩)), (7, .bool t36), (8, .bool t40), (9, .pointer (some ⟨b50, 0, none⟩)), (10, .pointer (some ⟨b51, 0, none⟩)), (58, .agg #[.int .i64 7, .int .i64 0, .slice none 0 0, .slice (some ⟨b52, 0, none⟩) ([a0, a1] : List T25).length 2])]) (by kernel_rfl) (by decide) ?_
        refine WL.op (op := .alloc 25) (ty := 0) (d := some 11) (g := none) (by kernel_rfl) (by kernel_rfl) (by kernel_rfl) (Does.new (o := .cells #[.int .i64 0, .int .i64 0, .slice none 0 0, .slice none 0 0] 25 (0, 0)) (v := fun r => .pointer (some ⟨r, 0, none⟩)) (fun r => by kernel_rfl)) ?_
        rintro _ _ _ ⟨b55, rfl, rfl, rfl⟩
        refine WL.op (op := .store 25 (.tmp 11) (.tmp 58)) (ty := 0) (d := none) (g := none) (by kernel_rfl) (by kernel_rfl) (by kernel_rfl) (Does.store_box (i := 0) (b := b55) (o := 0) (v := .agg #[.int .i64 7, .int .i64 0, .slice none 0 0, .slice (some ⟨b52, 0, none⟩) ([a0, a1] : List T25).length 2]) (by rfl) sz25 (by kernel_rfl) (by kernel_rfl) (by kernel_rfl) (Free.zero _) (Nat.le_of_ble_eq_true rfl) (cells' := #[.int .i64 7, .int .i64 0, .slice none 0 0, .slice (some ⟨b52, 0, none⟩) ([a0, a1] : List T25).length 2]) (by kernel_rfl)) ?_
        rintro _ _ _ ⟨rfl, rfl, rfl⟩
        refine WL.restQ 6 [3, 4, 5, 7, 8, 9, 10, 11] (L' := [(3, .pointer (some ⟨b1, 0, none⟩)), (4, .pointer (some ⟨b2, 0, none⟩)), (5, .pointer (some ⟨b3, 0, none⟩)), (7, .bool t36), (8, .bool t40), (9, .pointer (some ⟨b50, 0, none⟩)), (10, .pointer (some ⟨b51, 0, none⟩)), (11, .pointer (some ⟨b55, 0, none⟩))]) (by kernel_rfl) ?_
        refine WP.seqR ?_
        refine WL.tell (op := .load 25 (.tmp 3)) (ty := 25) (d := some 59) (g := none) (by kernel_rfl) (by kernel_rfl) (by kernel_rfl) (Tells.load_box (i := 8) (b := b1) (o := 0) (agg := true) (by rfl) ag25 (by kernel_rfl) (fun h => by cases h) (Nat.le_of_ble_eq_true rfl) (v := .agg #[.int .i64 a0.f0, .int .i64 a0.f1, .slice Aa0_f2 a0.f2.length ca0_f2, .slice Aa0_f3 a0.f3.length ca0_f3]) (by kernel_rfl)) ?_
        refine WL.tell (op := .load 25 (.tmp 4)) (ty := 25) (d := some 60) (g := none) (by kernel_rfl) (by kernel_rfl) (by kernel_rfl) (Tells.load_box (i := 7) (b := b2) (o := 0) (agg := true) (by rfl) ag25 (by kernel_rfl) (fun h => by cases h) (Nat.le_of_ble_eq_true rfl) (v := .agg #[.int .i64 a1.f0, .int .i64 a1.f1, .slice Aa1_f2 a1.f2.length ca1_f2, .slice Aa1_f3 a1.f3.length ca1_f3]) (by kernel_rfl)) ?_
        refine WL.op (op := .buildSlice 23 2 #[(0, (.tmp 59)), (1, (.tmp 60))]) (ty := 23) (d := some 61) (g := none) (by kernel_rfl) (by kernel_rfl) (by kernel_rfl) (Does.new (o := .cells #[.int .i64 a0.f0, .int .i64 a0.f1, .slice Aa0_f2 a0.f2.length ca0_f2, .slice Aa0_f3 a0.f3.length ca0_f3, .int .i64 a1.f0, .int .i64 a1.f1, .slice Aa1_f2 a1.f2.length ca1_f2, .slice Aa1_f3 a1.f3.length ca1_f3] 25 (0, 0)) (v := fun r => .slice (some ⟨r, 0, none⟩) 2 2) (fun r => by kernel_rfl)) ?_
        rintro _ _ _ ⟨b56, rfl, rfl, rfl⟩
        have Ho58 : Ow k25 G (some ⟨b56, 0, none⟩) 2 ([a0, a1] : List T25) [(b56, .cells #[.int .i64 a0.f0, .int .i64 a0.f1, .slice Aa0_f2 a0.f2.length ca0_f2, .slice Aa0_f3 a0.f3.length ca0_f3, .int .i64 a1.f0, .int .i64 a1.f1, .slice Aa1_f2 a1.f2.length ca1_f2, .slice Aa1_f3 a1.f3.length ca1_f3] 25 (0, 0))] := Ow.lit (kd := k25) (G := G) (b := b56) (T := 25) (xs := ([a0, a1] : List T25)) (cs := [.int .i64 a0.f0, .int .i64 a0.f1, .slice Aa0_f2 a0.f2.length ca0_f2, .slice Aa0_f3 a0.f3.length ca0_f3, .int .i64 a1.f0, .int .i64 a1.f1, .slice Aa1_f2 a1.f2.length ca1_f2, .slice Aa1_f3 a1.f3.length ca1_f3]) (.cons (x := a0) (cs := [.int .i64 a0.f0, .int .i64 a0.f1, .slice Aa0_f2 a0.f2.length ca0_f2, .slice Aa0_f3 a0.f3.length ca0_f3]) (k25_in ⟨[.int .i64 a0.f0], _, rfl, rfl, ⟨[.int .i64 a0.f1], _, rfl, rfl, ⟨[.slice Aa0_f2 a0.f2.length ca0_f2], _, rfl, ⟨Aa0_f2, ca0_f2, rfl, Ha0_f2⟩, ⟨Aa0_f3, ca0_f3, rfl, Ha0_f3⟩⟩⟩⟩) (.cons (x := a1) (cs := [.int .i64 a1.f0, .int .i64 a1.f1, .slice Aa1_f2 a1.f2.length ca1_f2, .slice Aa1_f3 a1.f3.length ca1_f3]) (k25_in ⟨[.int .i64 a1.f0], _, rfl, rfl, ⟨[.int .i64 a1.f1], _, rfl, rfl, ⟨[.slice Aa1_f2 a1.f2.length ca1_f2], _, rfl, ⟨Aa1_f2, ca1_f2, rfl, Ha1_f2⟩, ⟨Aa1_f3, ca1_f3, rfl, Ha1_f3⟩⟩⟩⟩) .nil))
        refine WL.pure 3 4 [5, 7, 8, 9, 10, 11, 62] (L' := [(5, .pointer (some ⟨b3, 0, none⟩)), (7, .bool t36), (8, .bool t40), (9, .pointer (some ⟨b50, 0, none⟩)), (10, .pointer (some ⟨b51, 0, none⟩)), (11, .pointer (some ⟨b55, 0, none⟩)), (62, .agg #[.int .i64 8, .int .i64 0, .slice none 0 0, .slice (some ⟨b56, 0, none⟩) ([a0, a1] : List T25).length 2])]) (by kernel_rfl) (by decide) ?_
        refine WL.op (op := .alloc 25) (ty := 0) (d := some 12) (g := none) (by kernel_rfl) (by kernel_rfl) (by kernel_rfl) (Does.new (o := .cells #[.int .i64 0, .int .i64 0, .slice none 0 0, .slice none 0 0] 25 (0, 0)) (v := fun r => .pointer (some ⟨r, 0, none⟩)) (fun r => by kernel_rfl)) ?_
        rintro _ _ _ ⟨b59, rfl, rfl, rfl⟩
        refine WL.op (op := .store 25 (.tmp 12) (.tmp 62)) (ty := 0) (d := none) (g := none) (by kernel_rfl) (by kernel_rfl) (by kernel_rfl) (Does.store_box (i := 0) (b := b59) (o := 0) (v := .agg #[.int .i64 8, .int .i64 0, .slice none 0 0, .slice (some ⟨b56, 0, none⟩) ([a0, a1] : List T25).length 2]) (by rfl) sz25 (by kernel_rfl) (by kernel_rfl) (by kernel_rfl) (Free.zero _) (Nat.le_of_ble_eq_true rfl) (cells' := #[.int .i64 8, .int .i64 0, .slice none 0 0, .slice (some ⟨b56, 0, none⟩) ([a0, a1] : List T25).length 2]) (by kernel_rfl)) ?_
        rintro _ _ _ ⟨rfl, rfl, rfl⟩
        refine WL.restQ 6 [5, 7, 8, 9, 10, 11, 12] (L' := [(5, .pointer (some ⟨b3, 0, none⟩)), (7, .bool t36), (8, .bool t40), (9, .pointer (some ⟨b50, 0, none⟩)), (10, .pointer (some ⟨b51, 0, none⟩)), (11, .pointer (some ⟨b55, 0, none⟩)), (12, .pointer (some ⟨b59, 0, none⟩))]) (by kernel_rfl) ?_
        refine WP.dropAt 10 ?_
        refine WP.dropAt 9 ?_
        refine WP.seq ?_
        rw [Option.bind_eq_some_iff] at h
        obtain ⟨os60, h, hk61⟩ := h
        refine WP.cut (fun L' G' Γ' => ∃ s60 : Bool, s60 = os60 ∧ L' = [(5, .pointer (some ⟨b3, 0, none⟩)), (9, .pointer (some ⟨b50, 0, none⟩)), (10, .pointer (some ⟨b51, 0, none⟩)), (11, .pointer (some ⟨b55, 0, none⟩)), (99, .bool s60)] ∧ G = G' ∧ [(b55, .cells #[.int .i64 7, .int .i64 0, .slice none 0 0, .slice (some ⟨b52, 0, none⟩) ([a0, a1] : List T25).length 2] 25 (0, 0))] :: [(b52, .cells #[.int .i64 a0.f0, .int .i64 a0.f1, .slice Aa0_f2 a0.f2.length ca0_f2, .slice Aa0_f3 a0.f3.length ca0_f3, .int .i64 a1.f0, .int .i64 a1.f1, .slice Aa1_f2 a1.f2.length ca1_f2, .slice Aa1_f3 a1.f3.length ca1_f3] 25 (0, 0))] :: [(b51, .cells #[.int .i64 9, .int .i64 0, .slice none 0 0, .slice (some ⟨b47, 0, none⟩) ([a1] : List T25).length 1] 25 (0, 0))] :: [(b50, .cells #[.int .i64 9, .int .i64 0, .slice none 0 0, .slice (some ⟨b44, 0, none⟩) ([a0] : List T25).length 1] 25 (0, 0))] :: [(b47, .cells #[.int .i64 a1.f0, .int .i64 a1.f1, .slice Aa1_f2 a1.f2.length ca1_f2, .slice Aa1_f3 a1.f3.length ca1_f3] 25 (0, 0))] :: [(b44, .cells #[.int .i64 a0.f0, .int .i64 a0.f1, .slice Aa0_f2 a0.f2.length ca0_f2, .slice Aa0_f3 a0.f3.length ca0_f3] 25 (0, 0))] :: [(b3, .cells #[.int .i64 a2.f0, .int .i64 a2.f1, .int .i64 a2.f2, .int .i64 a2.f3, .string a2.f4] 31 (0, 0))] :: Γ = Γ') ?_ ?_
        · clear hk61
          refine WP.region ?_
          refine WL.tell (op := .load 25 (.tmp 9)) (ty := 25) (d := some 63) (g := none) (by kernel_rfl) (by kernel_rfl) (by kernel_rfl) (Tells.load_box (i := 5) (b := b50) (o := 0) (agg := true) (by rfl) ag25 (by kernel_rfl) (fun h => by cases h) (Nat.le_of_ble_eq_true rfl) (v := .agg #[.int .i64 9, .int .i64 0, .slice none 0 0, .slice (some ⟨b44, 0, none⟩) ([a0] : List T25).length 1]) (by kernel_rfl)) ?_
          rw [Option.bind_eq_some_iff] at h
          obtain ⟨t62, ht63, h⟩ := h
          refine WL.op (op := .call { callee := (.value (.func 16)), args := #[(.tmp 63)], argTypes := #[25] }) (ty := 4) (d := some 64) (g := none) (by kernel_rfl) (by kernel_rfl) (by kernel_rfl) (Does.call (Φ := fun v' G' Γ' => v' = .bool t62 ∧ G = G' ∧ [(b59, .cells #[.int .i64 8, .int .i64 0, .slice none 0 0, .slice (some ⟨b56, 0, none⟩) ([a0, a1] : List T25).length 2] 25 (0, 0))] :: [(b56, .cells #[.int .i64 a0.f0, .int .i64 a0.f1, .slice Aa0_f2 a0.f2.length ca0_f2, .slice Aa0_f3 a0.f3.length ca0_f3, .int .i64 a1.f0, .int .i64 a1.f1, .slice Aa1_f2 a1.f2.length ca1_f2, .slice Aa1_f3 a1.f3.length ca1_f3] 25 (0, 0))] :: [(b55, .cells #[.int .i64 7, .int .i64 0, .slice none 0 0, .slice (some ⟨b52, 0, none⟩) ([a0, a1] : List T25).length 2] 25 (0, 0))] :: [(b52, .cells #[.int .i64 a0.f0, .int .i64 a0.f1, .slice Aa0_f2 a0.f2.length ca0_f2, .slice Aa0_f3 a0.f3.length ca0_f3, .int .i64 a1.f0, .int .i64 a1.f1, .slice Aa1_f2 a1.f2.length ca1_f2, .slice Aa1_f3 a1.f3.length ca1_f3] 25 (0, 0))] :: [(b51, .cells #[.int .i64 9, .int .i64 0, .slice none 0 0, .slice (some ⟨b47, 0, none⟩) ([a1] : List T25).length 1] 25 (0, 0))] :: [(b50, .cells #[.int .i64 9, .int .i64 0, .slice none 0 0, .slice (some ⟨b44, 0, none⟩) ([a0] : List T25).length 1] 25 (0, 0))] :: [(b47, .cells #[.int .i64 a1.f0, .int .i64 a1.f1, .slice Aa1_f2 a1.f2.length ca1_f2, .slice Aa1_f3 a1.f3.length ca1_f3] 25 (0, 0))] :: [(b44, .cells #[.int .i64 a0.f0, .int .i64 a0.f1, .slice Aa0_f2 a0.f2.length ca0_f2, .slice Aa0_f3 a0.f3.length ca0_f3] 25 (0, 0))] :: [(b3, .cells #[.int .i64 a2.f0, .int .i64 a2.f1, .int .i64 a2.f2, .int .i64 a2.f3, .string a2.f4] 31 (0, 0))] :: Γ = Γ') (f := 16) (args := [.agg #[.int .i64 9, .int .i64 0, .slice none 0 0, .slice (some ⟨b44, 0, none⟩) ([a0] : List T25).length 1]]) (by kernel_rfl) (fun W hI => (Calls.lendN (Φ := fun v' N => v' = .bool t62 ∧ N = []) (H := []) (i := 7) rfl hI (fun _ e l66 nl66 hI => by subst e; exact (((ask_May_calls (HT.mono l66) k (⟨9, 0, ([] : List ByteArray), ([a0] : List T25)⟩ : T25) none 0 (Rd.nil _ _ _ _) (some ⟨b44, 0, none⟩) 1 ((show Ow k25 G (some ⟨b44, 0, none⟩) 1 ([a0] : List T25) [(b44, .cells #[.int .i64 a0.f0, .int .i64 a0.f1, .slice Aa0_f2 a0.f2.length ca0_f2, .slice Aa0_f3 a0.f3.length ca0_f3] 25 (0, 0))] from Ow.lit (kd := k25) (G := G) (b := b44) (T := 25) (xs := ([a0] : List T25)) (cs := [.int .i64 a0.f0, .int .i64 a0.f1, .slice Aa0_f2 a0.f2.length ca0_f2, .slice Aa0_f3 a0.f3.length ca0_f3]) (.cons (x := a0) (cs := [.int .i64 a0.f0, .int .i64 a0.f1, .slice Aa0_f2 a0.f2.length ca0_f2, .slice Aa0_f3 a0.f3.length ca0_f3]) (k25_in ⟨[.int .i64 a0.f0], _, rfl, rfl, ⟨[.int .i64 a0.f1], _, rfl, rfl, ⟨[.slice Aa0_f2 a0.f2.length ca0_f2], _, rfl, ⟨Aa0_f2, ca0_f2, rfl, Ha0_f2⟩, ⟨Aa0_f3, ca0_f3, rfl, Ha0_f3⟩⟩⟩⟩) .nil)).rdN l66 nl66) t62 ht63 hI)).mono fun _ _ hr => by obtain ⟨_, _, _, rfl, hd, hI⟩ := hr; obtain ⟨rfl, rfl, rfl⟩ := hd; exact ⟨_, _, _, rfl, ⟨[], ⟨rfl, rfl⟩, rfl, rfl⟩, hI⟩))).mono fun _ _ hr => by obtain ⟨_, _, _, rfl, ⟨_, hd, rfl, rfl⟩, hI⟩ := hr; obtain ⟨rfl, rfl⟩ := hd; exact ⟨_, _, _, rfl, ⟨rfl, rfl, rfl⟩, hI⟩)) ?_
          rintro _ _ _ ⟨rfl, rfl, rfl⟩
          refine WL.pure 2 3 [5, 7, 8, 9, 10, 11, 12, 65] (L' := [(5, .pointer (some ⟨b3, 0, none⟩)), (7, .bool t36), (8, .bool t40), (9, .pointer (some ⟨b50, 0, none⟩)), (10, .pointer (some ⟨b51, 0, none⟩)), (11, .pointer (some ⟨b55, 0, none⟩)), (12, .pointer (some ⟨b59, 0, none⟩)), (65, .bool t62)]) (by kernel_rfl) (by decide) ?_
          refine WL.split 65 (b := t62) (by kernel_rfl) (fun hc => ?_) (fun hc => ?_)
          · replace hc := hc
            rw [if_pos hc] at h
            have hc67 := hc
            clear hc
            refine WL.tell (op := .load 25 (.tmp 9)) (ty := 25) (d := some 66) (g := some (2, true)) (by kernel_rfl) (by kernel_rfl) (by kernel_rfl) (Tells.load_box (i := 5) (b := b50) (o := 0) (agg := true) (by rfl) ag25 (by kernel_rfl) (fun h => by cases h) (Nat.le_of_ble_eq_true rfl) (v := .agg #[.int .i64 9, .int .i64 0, .slice none 0 0, .slice (some ⟨b44, 0, none⟩) ([a0] : List T25).length 1]) (by kernel_rfl)) ?_
            refine WL.tell (op := .load 31 (.tmp 5)) (ty := 31) (d := some 67) (g := some (2, true)) (by kernel_rfl) (by kernel_rfl) (by kernel_rfl) (Tells.load_box (i := 8) (b := b3) (o := 0) (agg := true) (by rfl) ag31 (by kernel_rfl) (fun h => by cases h) (Nat.le_of_ble_eq_true rfl) (v := .agg #[.int .i64 a2.f0, .int .i64 a2.f1, .int .i64 a2.f2, .int .i64 a2.f3, .string a2.f4]) (by kernel_rfl)) ?_
            rw [Option.bind_eq_some_iff] at h
            obtain ⟨t68, ht69, h⟩ := h
            refine WL.op (op := .call { callee := (.value (.func 12)), args := #[(.tmp 66), (.tmp 67)], argTypes := #[25, 31] }) (ty := 4) (d := some 68) (g := some (2, true)) (by kernel_rfl) (by kernel_rfl) (by kernel_rfl) (Does.call (Φ := fun v' G' Γ' => v' = .bool t68 ∧ G = G' ∧ [(b59, .cells #[.int .i64 8, .int .i64 0, .slice none 0 0, .slice (some ⟨b56, 0, none⟩) ([a0, a1] : List T25).length 2] 25 (0, 0))] :: [(b56, .cells #[.int .i64 a0.f0, .int .i64 a0.f1, .slice Aa0_f2 a0.f2.length ca0_f2, .slice Aa0_f3 a0.f3.length ca0_f3, .int .i64 a1.f0, .int .i64 a1.f1, .slice Aa1_f2 a1.f2.length ca1_f2, .slice Aa1_f3 a1.f3.length ca1_f3] 25 (0, 0))] :: [(b55, .cells #[.int .i64 7, .int .i64 0, .slice none 0 0, .slice (some ⟨b52, 0, none⟩) ([a0, a1] : List T25).length 2] 25 (0, 0))] :: [(b52, .cells #[.int .i64 a0.f0, .int .i64 a0.f1, .slice Aa0_f2 a0.f2.length ca0_f2, .slice Aa0_f3 a0.f3.length ca0_f3, .int .i64 a1.f0, .int .i64 a1.f1, .slice Aa1_f2 a1.f2.length ca1_f2, .slice Aa1_f3 a1.f3.length ca1_f3] 25 (0, 0))] :: [(b51, .cells #[.int .i64 9, .int .i64 0, .slice none 0 0, .slice (some ⟨b47, 0, none⟩) ([a1] : List T25).length 1] 25 (0, 0))] :: [(b50, .cells #[.int .i64 9, .int .i64 0, .slice none 0 0, .slice (some ⟨b44, 0, none⟩) ([a0] : List T25).length 1] 25 (0, 0))] :: [(b47, .cells #[.int .i64 a1.f0, .int .i64 a1.f1, .slice Aa1_f2 a1.f2.length ca1_f2, .slice Aa1_f3 a1.f3.length ca1_f3] 25 (0, 0))] :: [(b44, .cells #[.int .i64 a0.f0, .int .i64 a0.f1, .slice Aa0_f2 a0.f2.length ca0_f2, .slice Aa0_f3 a0.f3.length ca0_f3] 25 (0, 0))] :: [(b3, .cells #[.int .i64 a2.f0, .int .i64 a2.f1, .int .i64 a2.f2, .int .i64 a2.f3, .string a2.f4] 31 (0, 0))] :: Γ = Γ') (f := 12) (args := [.agg #[.int .i64 9, .int .i64 0, .slice none 0 0, .slice (some ⟨b44, 0, none⟩) ([a0] : List T25).length 1], .agg #[.int .i64 a2.f0, .int .i64 a2.f1, .int .i64 a2.f2, .int .i64 a2.f3, .string a2.f4]]) (by kernel_rfl) (fun W hI => (Calls.lendN (Φ := fun v' N => v' = .bool t68 ∧ N = []) (H := []) (i := 7) rfl hI (fun _ e l72 nl72 hI => by subst e; exact (((deem_Holds_calls (HT.mono l72) k (⟨9, 0, ([] : List ByteArray), ([a0] : List T25)⟩ : T25) a2 none 0 (Rd.nil _ _ _ _) (some ⟨b44, 0, none⟩) 1 ((show Ow k25 G (some ⟨b44, 0, none⟩) 1 ([a0] : List T25) [(b44, .cells #[.int .i64 a0.f0, .int .i64 a0.f1, .slice Aa0_f2 a0.f2.length ca0_f2, .slice Aa0_f3 a0.f3.length ca0_f3] 25 (0, 0))] from Ow.lit (kd := k25) (G := G) (b := b44) (T := 25) (xs := ([a0] : List T25)) (cs := [.int .i64 a0.f0, .int .i64 a0.f1, .slice Aa0_f2 a0.f2.length ca0_f2, .slice Aa0_f3 a0.f3.length ca0_f3]) (.cons (x := a0) (cs := [.int .i64 a0.f0, .int .i64 a0.f1, .slice Aa0_f2 a0.f2.length ca0_f2, .slice Aa0_f3 a0.f3.length ca0_f3]) (k25_in ⟨[.int .i64 a0.f0], _, rfl, rfl, ⟨[.int .i64 a0.f1], _, rfl, rfl, ⟨[.slice Aa0_f2 a0.f2.length ca0_f2], _, rfl, ⟨Aa0_f2, ca0_f2, rfl, Ha0_f2⟩, ⟨Aa0_f3, ca0_f3, rfl, Ha0_f3⟩⟩⟩⟩) .nil)).rdN l72 nl72) t68 ht69 hI)).mono fun _ _ hr => by obtain ⟨_, _, _, rfl, hd, hI⟩ := hr; obtain ⟨rfl, rfl, rfl⟩ := hd; exact ⟨_, _, _, rfl, ⟨[], ⟨rfl, rfl⟩, rfl, rfl⟩, hI⟩))).mono fun _ _ hr => by obtain ⟨_, _, _, rfl, ⟨_, hd, rfl, rfl⟩, hI⟩ := hr; obtain ⟨rfl, rfl⟩ := hd; exact ⟨_, _, _, rfl, ⟨rfl, rfl, rfl⟩, hI⟩)) ?_
            rintro _ _ _ ⟨rfl, rfl, rfl⟩
            refine WL.pure 6 10 [5, 7, 8, 9, 10, 11, 12, 72] (L' := [(5, .pointer (some ⟨b3, 0, none⟩)), (7, .bool t36), (8, .bool t40), (9, .pointer (some ⟨b50, 0, none⟩)), (10, .pointer (some ⟨b51, 0, none⟩)), (11, .pointer (some ⟨b55, 0, none⟩)), (12, .pointer (some ⟨b59, 0, none⟩)), (72, .bool (t68 == t36))]) (by kernel_rfl) (by decide) ?_
            refine WL.split 72 (b := (t68 == t36)) (by kernel_rfl) (fun hc => ?_) (fun hc => ?_)
            · replace hc := hc
              rw [if_pos hc] at h
              have hc73 := hc
              clear hc
              refine WL.rest 10 [5, 9, 10, 11, 99] (L' := [(5, .pointer (some ⟨b3, 0, none⟩)), (9, .pointer (some ⟨b50, 0, none⟩)), (10, .pointer (some ⟨b51, 0, none⟩)), (11, .pointer (some ⟨b55, 0, none⟩)), (99, .bool true)]) (by kernel_rfl) ?_
              refine QP.dropAt 1 ?_
              refine QP.dropAt 0 ?_
              refine QP.pick [5, 9, 10, 11, 99] ?_
              exact QP.meet ⟨_, Option.some.inj h, rfl, rfl, rfl⟩
            · replace hc := (Bool.eq_false_iff.1 hc)
              rw [if_neg hc] at h
              have hc73 := hc
              clear hc
              refine WL.tell (op := .load 25 (.tmp 11)) (ty := 25) (d := some 73) (g := some (9, false)) (by kernel_rfl) (by kernel_rfl) (by kernel_rfl) (Tells.load_box (i := 2) (b := b55) (o := 0) (agg := true) (by rfl) ag25 (by kernel_rfl) (fun h => by cases h) (Nat.le_of_ble_eq_true rfl) (v := .agg #[.int .i64 7, .int .i64 0, .slice none 0 0, .slice (some ⟨b52, 0, none⟩) ([a0, a1] : List T25).length 2]) (by kernel_rfl)) ?_
              rw [Option.bind_eq_some_iff] at h
              obtain ⟨t74, ht75, h⟩ := h
              refine WL.op (op := .call { callee := (.value (.func 16)), args := #[(.tmp 73)], argTypes := #[25] }) (ty := 4) (d := some 74) (g := some (9, false)) (by kernel_rfl) (by kernel_rfl) (by kernel_rfl) (Does.call (Φ := fun v' G' Γ' => v' = .bool t74 ∧ G = G' ∧ [(b59, .cells #[.int .i64 8, .int .i64 0, .slice none 0 0, .slice (some ⟨b56, 0, none⟩) ([a0, a1] : List T25).length 2] 25 (0, 0))] :: [(b56, .cells #[.int .i64 a0.f0, .int .i64 a0.f1, .slice Aa0_f2 a0.f2.length ca0_f2, .slice Aa0_f3 a0.f3.length ca0_f3, .int .i64 a1.f0, .int .i64 a1.f1, .slice Aa1_f2 a1.f2.length ca1_f2, .slice Aa1_f3 a1.f3.length ca1_f3] 25 (0, 0))] :: [(b55, .cells #[.int .i64 7, .int .i64 0, .slice none 0 0, .slice (some ⟨b52, 0, none⟩) ([a0, a1] : List T25).length 2] 25 (0, 0))] :: [(b52, .cells #[.int .i64 a0.f0, .int .i64 a0.f1, .slice Aa0_f2 a0.f2.length ca0_f2, .slice Aa0_f3 a0.f3.length ca0_f3, .int .i64 a1.f0, .int .i64 a1.f1, .slice Aa1_f2 a1.f2.length ca1_f2, .slice Aa1_f3 a1.f3.length ca1_f3] 25 (0, 0))] :: [(b51, .cells #[.int .i64 9, .int .i64 0, .slice none 0 0, .slice (some ⟨b47, 0, none⟩) ([a1] : List T25).length 1] 25 (0, 0))] :: [(b50, .cells #[.int .i64 9, .int .i64 0, .slice none 0 0, .slice (some ⟨b44, 0, none⟩) ([a0] : List T25).length 1] 25 (0, 0))] :: [(b47, .cells #[.int .i64 a1.f0, .int .i64 a1.f1, .slice Aa1_f2 a1.f2.length ca1_f2, .slice Aa1_f3 a1.f3.length ca1_f3] 25 (0, 0))] :: [(b44, .cells #[.int .i64 a0.f0, .int .i64 a0.f1, .slice Aa0_f2 a0.f2.length ca0_f2, .slice Aa0_f3 a0.f3.length ca0_f3] 25 (0, 0))] :: [(b3, .cells #[.int .i64 a2.f0, .int .i64 a2.f1, .int .i64 a2.f2, .int .i64 a2.f3, .string a2.f4] 31 (0, 0))] :: Γ = Γ') (f := 16) (args := [.agg #[.int .i64 7, .int .i64 0, .slice none 0 0, .slice (some ⟨b52, 0, none⟩) ([a0, a1] : List T25).length 2]]) (by kernel_rfl) (fun W hI => (Calls.lendN (Φ := fun v' N => v' = .bool t74 ∧ N = []) (H := []) (i := 3) rfl hI (fun _ e l78 nl78 hI => by subst e; exact (((ask_May_calls (HT.mono l78) k (⟨7, 0, ([] : List ByteArray), ([a0, a1] : List T25)⟩ : T25) none 0 (Rd.nil _ _ _ _) (some ⟨b52, 0, none⟩) 2 (Ho54.rdN l78 nl78) t74 ht75 hI)).mono fun _ _ hr => by obtain ⟨_, _, _, rfl, hd, hI⟩ := hr; obtain ⟨rfl, rfl, rfl⟩ := hd; exact ⟨_, _, _, rfl, ⟨[], ⟨rfl, rfl⟩, rfl, rfl⟩, hI⟩))).mono fun _ _ hr => by obtain ⟨_, _, _, rfl, ⟨_, hd, rfl, rfl⟩, hI⟩ := hr; obtain ⟨rfl, rfl⟩ := hd; exact ⟨_, _, _, rfl, ⟨rfl, rfl, rfl⟩, hI⟩)) ?_
              rintro _ _ _ ⟨rfl, rfl, rfl⟩
              refine WL.pure 12 13 [5, 7, 8, 9, 10, 11, 12, 72, 75] (L' := [(5, .pointer (some ⟨b3, 0, none⟩)), (7, .bool t36), (8, .bool t40), (9, .pointer (some ⟨b50, 0, none⟩)), (10, .pointer (some ⟨b51, 0, none⟩)), (11, .pointer (some ⟨b55, 0, none⟩)), (12, .pointer (some ⟨b59, 0, none⟩)), (72, .bool false), (75, .bool t74)]) (by kernel_rfl) (by decide) ?_
              refine WL.split 75 (b := t74) (by kernel_rfl) (fun hc => ?_) (fun hc => ?_)
              · replace hc := hc
                rw [if_pos hc] at h
                have hc79 := hc
                clear hc
                refine WL.tell (op := .load 25 (.tmp 11)) (ty := 25) (d := some 76) (g := some (12, true)) (by kernel_rfl) (by kernel_rfl) (by kernel_rfl) (Tells.load_box (i := 2) (b := b55) (o := 0) (agg := true) (by rfl) ag25 (by kernel_rfl) (fun h => by cases h) (Nat.le_of_ble_eq_true rfl) (v := .agg #[.int .i64 7, .int .i64 0, .slice none 0 0, .slice (some ⟨b52, 0, none⟩) ([a0, a1] : List T25).length 2]) (by kernel_rfl)) ?_
                refine WL.tell (op := .load 31 (.tmp 5)) (ty := 31) (d := some 77) (g := some (12, true)) (by kernel_rfl) (by kernel_rfl) (by kernel_rfl) (Tells.load_box (i := 8) (b := b3) (o := 0) (agg := true) (by rfl) ag31 (by kernel_rfl) (fun h => by cases h) (Nat.le_of_ble_eq_true rfl) (v := .agg #[.int .i64 a2.f0, .int .i64 a2.f1, .int .i64 a2.f2, .int .i64 a2.f3, .string a2.f4]) (by kernel_rfl)) ?_
                rw [Option.bind_eq_some_iff] at h
                obtain ⟨t80, ht81, h⟩ := h
                refine WL.op (op := .call { callee := (.value (.func 12)), args := #[(.tmp 76), (.tmp 77)], argTypes := #[25, 31] }) (ty := 4) (d := some 78) (g := some (12, true)) (by kernel_rfl) (by kernel_rfl) (by kernel_rfl) (Does.call (Φ := fun v' G' Γ' => v' = .bool t80 ∧ G = G' ∧ [(b59, .cells #[.int .i64 8, .int .i64 0, .slice none 0 0, .slice (some ⟨b56, 0, none⟩) ([a0, a1] : List T25).length 2] 25 (0, 0))] :: [(b56, .cells #[.int .i64 a0.f0, .int .i64 a0.f1, .slice Aa0_f2 a0.f2.length ca0_f2, .slice Aa0_f3 a0.f3.length ca0_f3, .int .i64 a1.f0, .int .i64 a1.f1, .slice Aa1_f2 a1.f2.length ca1_f2, .slice Aa1_f3 a1.f3.length ca1_f3] 25 (0, 0))] :: [(b55, .cells #[.int .i64 7, .int .i64 0, .slice none 0 0, .slice (some ⟨b52, 0, none⟩) ([a0, a1] : List T25).length 2] 25 (0, 0))] :: [(b52, .cells #[.int .i64 a0.f0, .int .i64 a0.f1, .slice Aa0_f2 a0.f2.length ca0_f2, .slice Aa0_f3 a0.f3.length ca0_f3, .int .i64 a1.f0, .int .i64 a1.f1, .slice Aa1_f2 a1.f2.length ca1_f2, .slice Aa1_f3 a1.f3.length ca1_f3] 25 (0, 0))] :: [(b51, .cells #[.int .i64 9, .int .i64 0, .slice none 0 0, .slice (some ⟨b47, 0, none⟩) ([a1] : List T25).length 1] 25 (0, 0))] :: [(b50, .cells #[.int .i64 9, .int .i64 0, .slice none 0 0, .slice (some ⟨b44, 0, none⟩) ([a0] : List T25).length 1] 25 (0, 0))] :: [(b47, .cells #[.int .i64 a1.f0, .int .i64 a1.f1, .slice Aa1_f2 a1.f2.length ca1_f2, .slice Aa1_f3 a1.f3.length ca1_f3] 25 (0, 0))] :: [(b44, .cells #[.int .i64 a0.f0, .int .i64 a0.f1, .slice Aa0_f2 a0.f2.length ca0_f2, .slice Aa0_f3 a0.f3.length ca0_f3] 25 (0, 0))] :: [(b3, .cells #[.int .i64 a2.f0, .int .i64 a2.f1, .int .i64 a2.f2, .int .i64 a2.f3, .string a2.f4] 31 (0, 0))] :: Γ = Γ') (f := 12) (args := [.agg #[.int .i64 7, .int .i64 0, .slice none 0 0, .slice (some ⟨b52, 0, none⟩) ([a0, a1] : List T25).length 2], .agg #[.int .i64 a2.f0, .int .i64 a2.f1, .int .i64 a2.f2, .int .i64 a2.f3, .string a2.f4]]) (by kernel_rfl) (fun W hI => (Calls.lendN (Φ := fun v' N => v' = .bool t80 ∧ N = []) (H := []) (i := 3) rfl hI (fun _ e l84 nl84 hI => by subst e; exact (((deem_Holds_calls (HT.mono l84) k (⟨7, 0, ([] : List ByteArray), ([a0, a1] : List T25)⟩ : T25) a2 none 0 (Rd.nil _ _ _ _) (some ⟨b52, 0, none⟩) 2 (Ho54.rdN l84 nl84) t80 ht81 hI)).mono fun _ _ hr => by obtain ⟨_, _, _, rfl, hd, hI⟩ := hr; obtain ⟨rfl, rfl, rfl⟩ := hd; exact ⟨_, _, _, rfl, ⟨[], ⟨rfl, rfl⟩, rfl, rfl⟩, hI⟩))).mono fun _ _ hr => by obtain ⟨_, _, _, rfl, ⟨_, hd, rfl, rfl⟩, hI⟩ := hr; obtain ⟨rfl, rfl⟩ := hd; exact ⟨_, _, _, rfl, ⟨rfl, rfl, rfl⟩, hI⟩)) ?_
                rintro _ _ _ ⟨rfl, rfl, rfl⟩
                refine WL.pure 16 18 [5, 7, 8, 9, 10, 11, 12, 72, 75, 78, 80] (L' := [(5, .pointer (some ⟨b3, 0, none⟩)), (7, .bool t36), (8, .bool t40), (9, .pointer (some ⟨b50, 0, none⟩)), (10, .pointer (some ⟨b51, 0, none⟩)), (11, .pointer (some ⟨b55, 0, none⟩)), (12, .pointer (some ⟨b59, 0, none⟩)), (72, .bool false), (75, .bool true), (78, .bool t80), (80, .bool t36)]) (by kernel_rfl) (by decide) ?_
                refine WL.split 80 (b := t36) (by kernel_rfl) (fun hc => ?_) (fun hc => ?_)
                · replace hc := hc
                  rw [if_pos hc] at h
                  have hc85 := hc
                  clear hc
                  refine WL.pure 18 24 [5, 7, 8, 9, 10, 11, 12, 86] (L' := [(5, .pointer (some ⟨b3, 0, none⟩)), (7, .bool t36), (8, .bool t40), (9, .pointer (some ⟨b50, 0, none⟩)), (10, .pointer (some ⟨b51, 0, none⟩)), (11, .pointer (some ⟨b55, 0, none⟩)), (12, .pointer (some ⟨b59, 0, none⟩)), (86, .bool (!(t80 == t40)))]) (by kernel_rfl) (by decide) ?_
                  refine WL.split 86 (b := (!(t80 == t40))) (by kernel_rfl) (fun hc => ?_) (fun hc => ?_)
                  · replace hc := hc
                    rw [if_pos hc] at h
                    have hc86 := hc
                    clear hc
                    refine WL.rest 24 [5, 9, 10, 11, 99] (L' := [(5, .pointer (some ⟨b3, 0, none⟩)), (9, .pointer (some ⟨b50, 0, none⟩)), (10, .pointer (some ⟨b51, 0, none⟩)), (11, .pointer (some ⟨b55, 0, none⟩)), (99, .bool true)]) (by kernel_rfl) ?_
                    refine QP.dropAt 1 ?_
                    refine QP.dropAt 0 ?_
                    refine QP.pick [5, 9, 10, 11, 99] ?_
                    exact QP.meet ⟨_, Option.some.inj h, rfl, rfl, rfl⟩
                  · replace hc := (Bool.eq_false_iff.1 hc)
                    rw [if_neg hc] at h
                    have hc86 := hc
                    clear hc
                    refine WL.tell (op := .load 25 (.tmp 12)) (ty := 25) (d := some 87) (g := some (23, false)) (by kernel_rfl) (by kernel_rfl) (by kernel_rfl) (Tells.load_box (i := 0) (b := b59) (o := 0) (agg := true) (by rfl) ag25 (by kernel_rfl) (fun h => by cases h) (Nat.le_of_ble_eq_true rfl) (v := .agg #[.int .i64 8, .int .i64 0, .slice none 0 0, .slice (some ⟨b56, 0, none⟩) ([a0, a1] : List T25).length 2]) (by kernel_rfl)) ?_
                    rw [Option.bind_eq_some_iff] at h
                    obtain ⟨t87, ht88, h⟩ := h
                    refine WL.op (op := .call { callee := (.value (.func 16)), args := #[(.tmp 87)], argTypes := #[25] }) (ty := 4) (d := some 88) (g := some (23, false)) (by kernel_rfl) (by kernel_rfl) (by kernel_rfl) (Does.call (Φ := fun v' G' Γ' => v' = .bool t87 ∧ G = G' ∧ [(b59, .cells #[.int .i64 8, .int .i64 0, .slice none 0 0, .slice (some ⟨b56, 0, none⟩) ([a0, a1] : List T25).length 2] 25 (0, 0))] :: [(b56, .cells #[.int .i64 a0.f0, .int .i64 a0.f1, .slice Aa0_f2 a0.f2.length ca0_f2, .slice Aa0_f3 a0.f3.length ca0_f3, .int .i64 a1.f0, .int .i64 a1.f1, .slice Aa1_f2 a1.f2.length ca1_f2, .slice Aa1_f3 a1.f3.length ca1_f3] 25 (0, 0))] :: [(b55, .cells #[.int .i64 7, .int .i64 0, .slice none 0 0, .slice (some ⟨b52, 0, none⟩) ([a0, a1] : List T25).length 2] 25 (0, 0))] :: [(b52, .cells #[.int .i64 a0.f0, .int .i64 a0.f1, .slice Aa0_f2 a0.f2.length ca0_f2, .slice Aa0_f3 a0.f3.length ca0_f3, .int .i64 a1.f0, .int .i64 a1.f1, .slice Aa1_f2 a1.f2.length ca1_f2, .slice Aa1_f3 a1.f3.length ca1_f3] 25 (0, 0))] :: [(b51, .cells #[.int .i64 9, .int .i64 0, .slice none 0 0, .slice (some ⟨b47, 0, none⟩) ([a1] : List T25).length 1] 25 (0, 0))] :: [(b50, .cells #[.int .i64 9, .int .i64 0, .slice none 0 0, .slice (some ⟨b44, 0, none⟩) ([a0] : List T25).length 1] 25 (0, 0))] :: [(b47, .cells #[.int .i64 a1.f0, .int .i64 a1.f1, .slice Aa1_f2 a1.f2.length ca1_f2, .slice Aa1_f3 a1.f3.length ca1_f3] 25 (0, 0))] :: [(b44, .cells #[.int .i64 a0.f0, .int .i64 a0.f1, .slice Aa0_f2 a0.f2.length ca0_f2, .slice Aa0_f3 a0.f3.length ca0_f3] 25 (0, 0))] :: [(b3, .cells #[.int .i64 a2.f0, .int .i64 a2.f1, .int .i64 a2.f2, .int .i64 a2.f3, .string a2.f4] 31 (0, 0))] :: Γ = Γ') (f := 16) (args := [.agg #[.int .i64 8, .int .i64 0, .slice none 0 0, .slice (some ⟨b56, 0, none⟩) ([a0, a1] : List T25).length 2]]) (by kernel_rfl) (fun W hI => (Calls.lendN (Φ := fun v' N => v' = .bool t87 ∧ N = []) (H := []) (i := 1) rfl hI (fun _ e l91 nl91 hI => by subst e; exact (((ask_May_calls (HT.mono l91) k (⟨8, 0, ([] : List ByteArray), ([a0, a1] : List T25)⟩ : T25) none 0 (Rd.nil _ _ _ _) (some ⟨b56, 0, none⟩) 2 (Ho58.rdN l91 nl91) t87 ht88 hI)).mono fun _ _ hr => by obtain ⟨_, _, _, rfl, hd, hI⟩ := hr; obtain ⟨rfl, rfl, rfl⟩ := hd; exact ⟨_, _, _, rfl, ⟨[], ⟨rfl, rfl⟩, rfl, rfl⟩, hI⟩))).mono fun _ _ hr => by obtain ⟨_, _, _, rfl, ⟨_, hd, rfl, rfl⟩, hI⟩ := hr; obtain ⟨rfl, rfl⟩ := hd; exact ⟨_, _, _, rfl, ⟨rfl, rfl, rfl⟩, hI⟩)) ?_
                    rintro _ _ _ ⟨rfl, rfl, rfl⟩
                    refine WL.pure 26 27 [5, 7, 8, 9, 10, 11, 12, 86, 89] (L' := [(5, .pointer (some ⟨b3, 0, none⟩)), (7, .bool t36), (8, .bool t40), (9, .pointer (some ⟨b50, 0, none⟩)), (10, .pointer (some ⟨b51, 0, none⟩)), (11, .pointer (some ⟨b55, 0, none⟩)), (12, .pointer (some ⟨b59, 0, none⟩)), (86, .bool false), (89, .bool t87)]) (by kernel_rfl) (by decide) ?_
                    refine WL.split 89 (b := t87) (by kernel_rfl) (fun hc => ?_) (fun hc => ?_)
                    · replace hc := hc
                      rw [if_pos hc] at h
                      have hc92 := hc
                      clear hc
                      refine WL.tell (op := .load 25 (.tmp 12)) (ty := 25) (d := some 90) (g := some (26, true)) (by kernel_rfl) (by kernel_rfl) (by kernel_rfl) (Tells.load_box (i := 0) (b := b59) (o := 0) (agg := true) (by rfl) ag25 (by kernel_rfl) (fun h => by cases h) (Nat.le_of_ble_eq_true rfl) (v := .agg #[.int .i64 8, .int .i64 0, .slice none 0 0, .slice (some ⟨b56, 0, none⟩) ([a0, a1] : List T25).length 2]) (by kernel_rfl)) ?_
                      refine WL.tell (op := .load 31 (.tmp 5)) (ty := 31) (d := some 91) (g := some (26, true)) (by kernel_rfl) (by kernel_rfl) (by kernel_rfl) (Tells.load_box (i := 8) (b := b3) (o := 0) (agg := true) (by rfl) ag31 (by kernel_rfl) (fun h => by cases h) (Nat.le_of_ble_eq_true rfl) (v := .agg #[.int .i64 a2.f0, .int .i64 a2.f1, .int .i64 a2.f2, .int .i64 a2.f3, .string a2.f4]) (by kernel_rfl)) ?_
                      rw [Option.bind_eq_some_iff] at h
                      obtain ⟨t93, ht94, h⟩ := h
                      refine WL.op (op := .call { callee := (.value (.func 12)), args := #[(.tmp 90), (.tmp 91)], argTypes := #[25, 31] }) (ty := 4) (d := some 92) (g := some (26, true)) (by kernel_rfl) (by kernel_rfl) (by kernel_rfl) (Does.call (Φ := fun v' G' Γ' => v' = .bool t93 ∧ G = G' ∧ [(b59, .cells #[.int .i64 8, .int .i64 0, .slice none 0 0, .slice (some ⟨b56, 0, none⟩) ([a0, a1] : List T25).length 2] 25 (0, 0))] :: [(b56, .cells #[.int .i64 a0.f0, .int .i64 a0.f1, .slice Aa0_f2 a0.f2.length ca0_f2, .slice Aa0_f3 a0.f3.length ca0_f3, .int .i64 a1.f0, .int .i64 a1.f1, .slice Aa1_f2 a1.f2.length ca1_f2, .slice Aa1_f3 a1.f3.length ca1_f3] 25 (0, 0))] :: [(b55, .cells #[.int .i64 7, .int .i64 0, .slice none 0 0, .slice (some ⟨b52, 0, none⟩) ([a0, a1] : List T25).length 2] 25 (0, 0))] :: [(b52, .cells #[.int .i64 a0.f0, .int .i64 a0.f1, .slice Aa0_f2 a0.f2.length ca0_f2, .slice Aa0_f3 a0.f3.length ca0_f3, .int .i64 a1.f0, .int .i64 a1.f1, .slice Aa1_f2 a1.f2.length ca1_f2, .slice Aa1_f3 a1.f3.length ca1_f3] 25 (0, 0))] :: [(b51, .cells #[.int .i64 9, .int .i64 0, .slice none 0 0, .slice (some ⟨b47, 0, none⟩) ([a1] : List T25).length 1] 25 (0, 0))] :: [(b50, .cells #[.int .i64 9, .int .i64 0, .slice none 0 0, .slice (some ⟨b44, 0, none⟩) ([a0] : List T25).length 1] 25 (0, 0))] :: [(b47, .cells #[.int .i64 a1.f0, .int .i64 a1.f1, .slice Aa1_f2 a1.f2.length ca1_f2, .slice Aa1_f3 a1.f3.length ca1_f3] 25 (0, 0))] :: [(b44, .cells #[.int .i64 a0.f0, .int .i64 a0.f1, .slice Aa0_f2 a0.f2.length ca0_f2, .slice Aa0_f3 a0.f3.length ca0_f3] 25 (0, 0))] :: [(b3, .cells #[.int .i64 a2.f0, .int .i64 a2.f1, .int .i64 a2.f2, .int .i64 a2.f3, .string a2.f4] 31 (0, 0))] :: Γ = Γ') (f := 12) (args := [.agg #[.int .i64 8, .int .i64 0, .slice none 0 0, .slice (some ⟨b56, 0, none⟩) ([a0, a1] : List T25).length 2], .agg #[.int .i64 a2.f0, .int .i64 a2.f1, .int .i64 a2.f2, .int .i64 a2.f3, .string a2.f4]]) (by kernel_rfl) (fun W hI => (Calls.lendN (Φ := fun v' N => v' = .bool t93 ∧ N = []) (H := []) (i := 1) rfl hI (fun _ e l97 nl97 hI => by subst e; exact (((deem_Holds_calls (HT.mono l97) k (⟨8, 0, ([] : List ByteArray), ([a0, a1] : List T25)⟩ : T25) a2 none 0 (Rd.nil _ _ _ _) (some ⟨b56, 0, none⟩) 2 (Ho58.rdN l97 nl97) t93 ht94 hI)).mono fun _ _ hr => by obtain ⟨_, _, _, rfl, hd, hI⟩ := hr; obtain ⟨rfl, rfl, rfl⟩ := hd; exact ⟨_, _, _, rfl, ⟨[], ⟨rfl, rfl⟩, rfl, rfl⟩, hI⟩))).mono fun _ _ hr => by obtain ⟨_, _, _, rfl, ⟨_, hd, rfl, rfl⟩, hI⟩ := hr; obtain ⟨rfl, rfl⟩ := hd; exact ⟨_, _, _, rfl, ⟨rfl, rfl, rfl⟩, hI⟩)) ?_
                      rintro _ _ _ ⟨rfl, rfl, rfl⟩
                      refine WL.pure 30 32 [5, 8, 9, 10, 11, 86, 89, 92, 94] (L' := [(5, .pointer (some ⟨b3, 0, none⟩)), (8, .bool t40), (9, .pointer (some ⟨b50, 0, none⟩)), (10, .pointer (some ⟨b51, 0, none⟩)), (11, .pointer (some ⟨b55, 0, none⟩)), (86, .bool false), (89, .bool true), (92, .bool t93), (94, .bool t36)]) (by kernel_rfl) (by decide) ?_
                      refine WL.split 94 (b := t36) (by kernel_rfl) (fun hc => ?_) (fun hc => ?_)
                      · replace hc := hc
                        rw [if_pos hc] at h
                        have hc98 := hc
                        clear hc
                        refine WL.rest 32 [5, 9, 10, 11, 99] (L' := [(5, .pointer (some ⟨b3, 0, none⟩)), (9, .pointer (some ⟨b50, 0, none⟩)), (10, .pointer (some ⟨b51, 0, none⟩)), (11, .pointer (some ⟨b55, 0, none⟩)), (99, .bool (!(t93 == true)))]) (by kernel_rfl) ?_
                        refine QP.dropAt 1 ?_
                        refine QP.dropAt 0 ?_
                        refine QP.pick [5, 9, 10, 11, 99] ?_
                        exact QP.meet ⟨_, Option.some.inj h, rfl, rfl, rfl⟩
                      · replace hc := (Bool.eq_false_iff.1 hc)
                        rw [if_neg hc] at h
                        have hc98 := hc
                        clear hc
                        refine WL.rest 32 [5, 9, 10, 11, 99] (L' := [(5, .pointer (some ⟨b3, 0, none⟩)), (9, .pointer (some ⟨b50, 0, none⟩)), (10, .pointer (some ⟨b51, 0, none⟩)), (11, .pointer (some ⟨b55, 0, none⟩)), (99, .bool (!(t93 == t40)))]) (by kernel_rfl) ?_
                        refine QP.dropAt 1 ?_
                        refine QP.dropAt 0 ?_
                        refine QP.pick [5, 9, 10, 11, 99] ?_
                        exact QP.meet ⟨_, Option.some.inj h, rfl, rfl, rfl⟩
                    · replace hc := (Bool.eq_false_iff.1 hc)
                      rw [if_neg hc] at h
                      have hc92 := hc
                      clear hc
                      refine WL.rest 27 [5, 9, 10, 11, 99] (L' := [(5, .pointer (some ⟨b3, 0, none⟩)), (9, .pointer (some ⟨b50, 0, none⟩)), (10, .pointer (some ⟨b51, 0, none⟩)), (11, .pointer (some ⟨b55, 0, none⟩)), (99, .bool false)]) (by kernel_rfl) ?_
                      refine QP.dropAt 1 ?_
                      refine QP.dropAt 0 ?_
                      refine QP.pick [5, 9, 10, 11, 99] ?_
                      exact QP.meet ⟨_, Option.some.inj h, rfl, rfl, rfl⟩
                · replace hc := (Bool.eq_false_iff.1 hc)
                  rw [if_neg hc] at h
                  have hc85 := hc
                  clear hc
                  refine WL.pure 18 24 [5, 7, 8, 9, 10, 11, 12, 86] (L' := [(5, .pointer (some ⟨b3, 0, none⟩)), (7, .bool t36), (8, .bool t40), (9, .pointer (some ⟨b50, 0, none⟩)), (10, .pointer (some ⟨b51, 0, none⟩)), (11, .pointer (some ⟨b55, 0, none⟩)), (12, .pointer (some ⟨b59, 0, none⟩)), (86, .bool (!(t80 == false)))]) (by kernel_rfl) (by decide) ?_
                  refine WL.split 86 (b := (!(t80 == false))) (by kernel_rfl) (fun hc => ?_) (fun hc => ?_)
                  · replace hc := hc
                    rw [if_pos hc] at h
                    have hc99 := hc
                    clear hc
                    refine WL.rest 24 [5, 9, 10, 11, 99] (L' := [(5, .pointer (some ⟨b3, 0, none⟩)), (9, .pointer (some ⟨b50, 0, none⟩)), (10, .pointer (some ⟨b51, 0, none⟩)), (11, .pointer (some ⟨b55, 0, none⟩)), (99, .bool true)]) (by kernel_rfl) ?_
                    refine QP.dropAt 1 ?_
                    refine QP.dropAt 0 ?_
                    refine QP.pick [5, 9, 10, 11, 99] ?_
                    exact QP.meet ⟨_, Option.some.inj h, rfl, rfl, rfl⟩
                  · replace hc := (Bool.eq_false_iff.1 hc)
                    rw [if_neg hc] at h
                    have hc99 := hc
                    clear hc
                    refine WL.tell (op := .load 25 (.tmp 12)) (ty := 25) (d := some 87) (g := some (23, false)) (by kernel_rfl) (by kernel_rfl) (by kernel_rfl) (Tells.load_box (i := 0) (b := b59) (o := 0) (agg := true) (by rfl) ag25 (by kernel_rfl) (fun h => by cases h) (Nat.le_of_ble_eq_true rfl) (v := .agg #[.int .i64 8, .int .i64 0, .slice none 0 0, .slice (some ⟨b56, 0, none⟩) ([a0, a1] : List T25).length 2]) (by kernel_rfl)) ?_
                    rw [Option.bind_eq_some_iff] at h
                    obtain ⟨t100, ht101, h⟩ := h
                    refine WL.op (op := .call { callee := (.value (.func 16)), args := #[(.tmp 87)], argTypes := #[25] }) (ty := 4) (d := some 88) (g := some (23, false)) (by kernel_rfl) (by kernel_rfl) (by kernel_rfl) (Does.call (Φ := fun v' G' Γ' => v' = .bool t100 ∧ G = G' ∧ [(b59, .cells #[.int .i64 8, .int .i64 0, .slice none 0 0, .slice (some ⟨b56, 0, none⟩) ([a0, a1] : List T25).length 2] 25 (0, 0))] :: [(b56, .cells #[.int .i64 a0.f0, .int .i64 a0.f1, .slice Aa0_f2 a0.f2.length ca0_f2, .slice Aa0_f3 a0.f3.length ca0_f3, .int .i64 a1.f0, .int .i64 a1.f1, .slice Aa1_f2 a1.f2.length ca1_f2, .slice Aa1_f3 a1.f3.length ca1_f3] 25 (0, 0))] :: [(b55, .cells #[.int .i64 7, .int .i64 0, .slice none 0 0, .slice (some ⟨b52, 0, none⟩) ([a0, a1] : List T25).length 2] 25 (0, 0))] :: [(b52, .cells #[.int .i64 a0.f0, .int .i64 a0.f1, .slice Aa0_f2 a0.f2.length ca0_f2, .slice Aa0_f3 a0.f3.length ca0_f3, .int .i64 a1.f0, .int .i64 a1.f1, .slice Aa1_f2 a1.f2.length ca1_f2, .slice Aa1_f3 a1.f3.length ca1_f3] 25 (0, 0))] :: [(b51, .cells #[.int .i64 9, .int .i64 0, .slice none 0 0, .slice (some ⟨b47, 0, none⟩) ([a1] : List T25).length 1] 25 (0, 0))] :: [(b50, .cells #[.int .i64 9, .int .i64 0, .slice none 0 0, .slice (some ⟨b44, 0, none⟩) ([a0] : List T25).length 1] 25 (0, 0))] :: [(b47, .cells #[.int .i64 a1.f0, .int .i64 a1.f1, .slice Aa1_f2 a1.f2.length ca1_f2, .slice Aa1_f3 a1.f3.length ca1_f3] 25 (0, 0))] :: [(b44, .cells #[.int .i64 a0.f0, .int .i64 a0.f1, .slice Aa0_f2 a0.f2.length ca0_f2, .slice Aa0_f3 a0.f3.length ca0_f3] 25 (0, 0))] :: [(b3, .cells #[.int .i64 a2.f0, .int .i64 a2.f1, .int .i64 a2.f2, .int .i64 a2.f3, .string a2.f4] 31 (0, 0))] :: Γ = Γ') (f := 16) (args := [.agg #[.int .i64 8, .int .i64 0, .slice none 0 0, .slice (some ⟨b56, 0, none⟩) ([a0, a1] : List T25).length 2]]) (by kernel_rfl) (fun W hI => (Calls.lendN (Φ := fun v' N => v' = .bool t100 ∧ N = []) (H := []) (i := 1) rfl hI (fun _ e l104 nl104 hI => by subst e; exact (((ask_May_calls (HT.mono l104) k (⟨8, 0, ([] : List ByteArray), ([a0, a1] : List T25)⟩ : T25) none 0 (Rd.nil _ _ _ _) (some ⟨b56, 0, none⟩) 2 (Ho58.rdN l104 nl104) t100 ht101 hI)).mono fun _ _ hr => by obtain ⟨_, _, _, rfl, hd, hI⟩ := hr; obtain ⟨rfl, rfl, rfl⟩ := hd; exact ⟨_, _, _, rfl, ⟨[], ⟨rfl, rfl⟩, rfl, rfl⟩, hI⟩))).mono fun _ _ hr => by obtain ⟨_, _, _, rfl, ⟨_, hd, rfl, rfl⟩, hI⟩ := hr; obtain ⟨rfl, rfl⟩ := hd; exact ⟨_, _, _, rfl, ⟨rfl, rfl, rfl⟩, hI⟩)) ?_
                    rintro _ _ _ ⟨rfl, rfl, rfl⟩
                    refine WL.pure 26 27 [5, 7, 8, 9, 10, 11, 12, 86, 89] (L' := [(5, .pointer (some ⟨b3, 0, none⟩)), (7, .bool t36), (8, .bool t40), (9, .pointer (some ⟨b50, 0, none⟩)), (10, .pointer (some ⟨b51, 0, none⟩)), (11, .pointer (some ⟨b55, 0, none⟩)), (12, .pointer (some ⟨b59, 0, none⟩)), (86, .bool false), (89, .bool t100)]) (by kernel_rfl) (by decide) ?_
                    refine WL.split 89 (b := t100) (by kernel_rfl) (fun hc => ?_) (fun hc => ?_)
                    · replace hc := hc
                      rw [if_pos hc] at h
                      have hc105 := hc
                      clear hc
                      refine WL.tell (op := .load 25 (.tmp 12)) (ty := 25) (d := some 90) (g := some (26, true)) (by kernel_rfl) (by kernel_rfl) (by kernel_rfl) (Tells.load_box (i := 0) (b := b59) (o := 0) (agg := true) (by rfl) ag25 (by kernel_rfl) (fun h => by cases h) (Nat.le_of_ble_eq_true rfl) (v := .agg #[.int .i64 8, .int .i64 0, .slice none 0 0, .slice (some ⟨b56, 0, none⟩) ([a0, a1] : List T25).length 2]) (by kernel_rfl)) ?_
                      refine WL.tell (op := .load 31 (.tmp 5)) (ty := 31) (d := some 91) (g := some (26, true)) (by kernel_rfl) (by kernel_rfl) (by kernel_rfl) (Tells.load_box (i := 8) (b := b3) (o := 0) (agg := true) (by rfl) ag31 (by kernel_rfl) (fun h => by cases h) (Nat.le_of_ble_eq_true rfl) (v := .agg #[.int .i64 a2.f0, .int .i64 a2.f1, .int .i64 a2.f2, .int .i64 a2.f3, .string a2.f4]) (by kernel_rfl)) ?_
                      rw [Option.bind_eq_some_iff] at h
                      obtain ⟨t106, ht107, h⟩ := h
                      refine WL.op (op := .call { callee := (.value (.func 12)), args := #[(.tmp 90), (.tmp 91)], argTypes := #[25, 31] }) (ty := 4) (d := some 92) (g := some (26, true)) (by kernel_rfl) (by kernel_rfl) (by kernel_rfl) (Does.call (Φ := fun v' G' Γ' => v' = .bool t106 ∧ G = G' ∧ [(b59, .cells #[.int .i64 8, .int .i64 0, .slice none 0 0, .slice (some ⟨b56, 0, none⟩) ([a0, a1] : List T25).length 2] 25 (0, 0))] :: [(b56, .cells #[.int .i64 a0.f0, .int .i64 a0.f1, .slice Aa0_f2 a0.f2.length ca0_f2, .slice Aa0_f3 a0.f3.length ca0_f3, .int .i64 a1.f0, .int .i64 a1.f1, .slice Aa1_f2 a1.f2.length ca1_f2, .slice Aa1_f3 a1.f3.length ca1_f3] 25 (0, 0))] :: [(b55, .cells #[.int .i64 7, .int .i64 0, .slice none 0 0, .slice (some ⟨b52, 0, none⟩) ([a0, a1] : List T25).length 2] 25 (0, 0))] :: [(b52, .cells #[.int .i64 a0.f0, .int .i64 a0.f1, .slice Aa0_f2 a0.f2.length ca0_f2, .slice Aa0_f3 a0.f3.length ca0_f3, .int .i64 a1.f0, .int .i64 a1.f1, .slice Aa1_f2 a1.f2.length ca1_f2, .slice Aa1_f3 a1.f3.length ca1_f3] 25 (0, 0))] :: [(b51, .cells #[.int .i64 9, .int .i64 0, .slice none 0 0, .slice (some ⟨b47, 0, none⟩) ([a1] : List T25).length 1] 25 (0, 0))] :: [(b50, .cells #[.int .i64 9, .int .i64 0, .slice none 0 0, .slice (some ⟨b44, 0, none⟩) ([a0] : List T25).length 1] 25 (0, 0))] :: [(b47, .cells #[.int .i64 a1.f0, .int .i64 a1.f1, .slice Aa1_f2 a1.f2.length ca1_f2, .slice Aa1_f3 a1.f3.length ca1_f3] 25 (0, 0))] :: [(b44, .cells #[.int .i64 a0.f0, .int .i64 a0.f1, .slice Aa0_f2 a0.f2.length ca0_f2, .slice Aa0_f3 a0.f3.length ca0_f3] 25 (0, 0))] :: [(b3, .cells #[.int .i64 a2.f0, .int .i64 a2.f1, .int .i64 a2.f2, .int .i64 a2.f3, .string a2.f4] 31 (0, 0))] :: Γ = Γ') (f := 12) (args := [.agg #[.int .i64 8, .int .i64 0, .slice none 0 0, .slice (some ⟨b56, 0, none⟩) ([a0, a1] : List T25).length 2], .agg #[.int .i64 a2.f0, .int .i64 a2.f1, .int .i64 a2.f2, .int .i64 a2.f3, .string a2.f4]]) (by kernel_rfl) (fun W hI => (Calls.lendN (Φ := fun v' N => v' = .bool t106 ∧ N = []) (H := []) (i := 1) rfl hI (fun _ e l110 nl110 hI => by subst e; exact (((deem_Holds_calls (HT.mono l110) k (⟨8, 0, ([] : List ByteArray), ([a0, a1] : List T25)⟩ : T25) a2 none 0 (Rd.nil _ _ _ _) (some ⟨b56, 0, none⟩) 2 (Ho58.rdN l110 nl110) t106 ht107 hI)).mono fun _ _ hr => by obtain ⟨_, _, _, rfl, hd, hI⟩ := hr; obtain ⟨rfl, rfl, rfl⟩ := hd; exact ⟨_, _, _, rfl, ⟨[], ⟨rfl, rfl⟩, rfl, rfl⟩, hI⟩))).mono fun _ _ hr => by obtain ⟨_, _, _, rfl, ⟨_, hd, rfl, rfl⟩, hI⟩ := hr; obtain ⟨rfl, rfl⟩ := hd; exact ⟨_, _, _, rfl, ⟨rfl, rfl, rfl⟩, hI⟩)) ?_
                      rintro _ _ _ ⟨rfl, rfl, rfl⟩
                      refine WL.pure 30 32 [5, 8, 9, 10, 11, 86, 89, 92, 94] (L' := [(5, .pointer (some ⟨b3, 0, none⟩)), (8, .bool t40), (9, .pointer (some ⟨b50, 0, none⟩)), (10, .pointer (some ⟨b51, 0, none⟩)), (11, .pointer (some ⟨b55, 0, none⟩)), (86, .bool false), (89, .bool true), (92, .bool t106), (94, .bool t36)]) (by kernel_rfl) (by decide) ?_
                      refine WL.split 94 (b := t36) (by kernel_rfl) (fun hc => ?_) (fun hc => ?_)
                      · replace hc := hc
                        rw [if_pos hc] at h
                        have hc111 := hc
                        clear hc
                        refine WL.rest 32 [5, 9, 10, 11, 99] (L' := [(5, .pointer (some ⟨b3, 0, none⟩)), (9, .pointer (some ⟨b50, 0, none⟩)), (10, .pointer (some ⟨b51, 0, none⟩)), (11, .pointer (some ⟨b55, 0, none⟩)), (99, .bool (!(t106 == true)))]) (by kernel_rfl) ?_
                        refine QP.dropAt 1 ?_
                        refine QP.dropAt 0 ?_
                        refine QP.pick [5, 9, 10, 11, 99] ?_
                        exact QP.meet ⟨_, Option.some.inj h, rfl, rfl, rfl⟩
                      · replace hc := (Bool.eq_false_iff.1 hc)
                        rw [if_neg hc] at h
                        have hc111 := hc
                        clear hc
                        refine WL.rest 32 [5, 9, 10, 11, 99] (L' := [(5, .pointer (some ⟨b3, 0, none⟩)), (9, .pointer (some ⟨b50, 0, none⟩)), (10, .pointer (some ⟨b51, 0, none⟩)), (11, .pointer (some ⟨b55, 0, none⟩)), (99, .bool (!(t106 == t40)))]) (by kernel_rfl) ?_
                        refine QP.dropAt 1 ?_
                        refine QP.dropAt 0 ?_
                        refine QP.pick [5, 9, 10, 11, 99] ?_
                        exact QP.meet ⟨_, Option.some.inj h, rfl, rfl, rfl⟩
                    · replace hc := (Bool.eq_false_iff.1 hc)
                      rw [if_neg hc] at h
                      have hc105 := hc
                      clear hc
                      refine WL.rest 27 [5, 9, 10, 11, 99] (L' := [(5, .pointer (some ⟨b3, 0, none⟩)), (9, .pointer (some ⟨b50, 0, none⟩)), (10, .pointer (some ⟨b51, 0, none⟩)), (11, .pointer (some ⟨b55, 0, none⟩)), (99, .bool false)]) (by kernel_rfl) ?_
                      refine QP.dropAt 1 ?_
                      refine QP.dropAt 0 ?_
                      refine QP.pick [5, 9, 10, 11, 99] ?_
                      exact QP.meet ⟨_, Option.some.inj h, rfl, rfl, rfl⟩
              · replace hc := (Bool.eq_false_iff.1 hc)
                rw [if_neg hc] at h
                have hc79 := hc
                clear hc
                refine WL.pure 13 24 [5, 7, 8, 9, 10, 11, 12, 86] (L' := [(5, .pointer (some ⟨b3, 0, none⟩)), (7, .bool t36), (8, .bool t40), (9, .pointer (some ⟨b50, 0, none⟩)), (10, .pointer (some ⟨b51, 0, none⟩)), (11, .pointer (some ⟨b55, 0, none⟩)), (12, .pointer (some ⟨b59, 0, none⟩)), (86, .bool false)]) (by kernel_rfl) (by decide) ?_
                refine WL.tell (op := .load 25 (.tmp 12)) (ty := 25) (d := some 87) (g := some (23, false)) (by kernel_rfl) (by kernel_rfl) (by kernel_rfl) (Tells.load_box (i := 0) (b := b59) (o := 0) (agg := true) (by rfl) ag25 (by kernel_rfl) (fun h => by cases h) (Nat.le_of_ble_eq_true rfl) (v := .agg #[.int .i64 8, .int .i64 0, .slice none 0 0, .slice (some ⟨b56, 0, none⟩) ([a0, a1] : List T25).length 2]) (by kernel_rfl)) ?_
                rw [Option.bind_eq_some_iff] at h
                obtain ⟨t112, ht113, h⟩ := h
                refine WL.op (op := .call { callee := (.value (.func 16)), args := #[(.tmp 87)], argTypes := #[25] }) (ty := 4) (d := some 88) (g := some (23, false)) (by kernel_rfl) (by kernel_rfl) (by kernel_rfl) (Does.call (Φ := fun v' G' Γ' => v' = .bool t112 ∧ G = G' ∧ [(b59, .cells #[.int .i64 8, .int .i64 0, .slice none 0 0, .slice (some ⟨b56, 0, none⟩) ([a0, a1] : List T25).length 2] 25 (0, 0))] :: [(b56, .cells #[.int .i64 a0.f0, .int .i64 a0.f1, .slice Aa0_f2 a0.f2.length ca0_f2, .slice Aa0_f3 a0.f3.length ca0_f3, .int .i64 a1.f0, .int .i64 a1.f1, .slice Aa1_f2 a1.f2.length ca1_f2, .slice Aa1_f3 a1.f3.length ca1_f3] 25 (0, 0))] :: [(b55, .cells #[.int .i64 7, .int .i64 0, .slice none 0 0, .slice (some ⟨b52, 0, none⟩) ([a0, a1] : List T25).length 2] 25 (0, 0))] :: [(b52, .cells #[.int .i64 a0.f0, .int .i64 a0.f1, .slice Aa0_f2 a0.f2.length ca0_f2, .slice Aa0_f3 a0.f3.length ca0_f3, .int .i64 a1.f0, .int .i64 a1.f1, .slice Aa1_f2 a1.f2.length ca1_f2, .slice Aa1_f3 a1.f3.length ca1_f3] 25 (0, 0))] :: [(b51, .cells #[.int .i64 9, .int .i64 0, .slice none 0 0, .slice (some ⟨b47, 0, none⟩) ([a1] : List T25).length 1] 25 (0, 0))] :: [(b50, .cells #[.int .i64 9, .int .i64 0, .slice none 0 0, .slice (some ⟨b44, 0, none⟩) ([a0] : List T25).length 1] 25 (0, 0))] :: [(b47, .cells #[.int .i64 a1.f0, .int .i64 a1.f1, .slice Aa1_f2 a1.f2.length ca1_f2, .slice Aa1_f3 a1.f3.length ca1_f3] 25 (0, 0))] :: [(b44, .cells #[.int .i64 a0.f0, .int .i64 a0.f1, .slice Aa0_f2 a0.f2.length ca0_f2, .slice Aa0_f3 a0.f3.length ca0_f3] 25 (0, 0))] :: [(b3, .cells #[.int .i64 a2.f0, .int .i64 a2.f1, .int .i64 a2.f2, .int .i64 a2.f3, .string a2.f4] 31 (0, 0))] :: Γ = Γ') (f := 16) (args := [.agg #[.int .i64 8, .int .i64 0, .slice none 0 0, .slice (some ⟨b56, 0, none⟩) ([a0, a1] : List T25).length 2]]) (by kernel_rfl) (fun W hI => (Calls.lendN (Φ := fun v' N => v' = .bool t112 ∧ N = []) (H := []) (i := 1) rfl hI (fun _ e l116 nl116 hI => by subst e; exact (((ask_May_calls (HT.mono l116) k (⟨8, 0, ([] : List ByteArray), ([a0, a1] : List T25)⟩ : T25) none 0 (Rd.nil _ _ _ _) (some ⟨b56, 0, none⟩) 2 (Ho58.rdN l116 nl116) t112 ht113 hI)).mono fun _ _ hr => by obtain ⟨_, _, _, rfl, hd, hI⟩ := hr; obtain ⟨rfl, rfl, rfl⟩ := hd; exact ⟨_, _, _, rfl, ⟨[], ⟨rfl, rfl⟩, rfl, rfl⟩, hI⟩))).mono fun _ _ hr => by obtain ⟨_, _, _, rfl, ⟨_, hd, rfl, rfl⟩, hI⟩ := hr; obtain ⟨rfl, rfl⟩ := hd; exact ⟨_, _, _, rfl, ⟨rfl, rfl, rfl⟩, hI⟩)) ?_
                rintro _ _ _ ⟨rfl, rfl, rfl⟩
                refine WL.pure 26 27 [5, 7, 8, 9, 10, 11, 12, 86, 89] (L' := [(5, .pointer (some ⟨b3, 0, none⟩)), (7, .bool t36), (8, .bool t40), (9, .pointer (some ⟨b50, 0, none⟩)), (10, .pointer (some ⟨b51, 0, none⟩)), (11, .pointer (some ⟨b55, 0, none⟩)), (12, .pointer (some ⟨b59, 0, none⟩)), (86, .bool false), (89, .bool t112)]) (by kernel_rfl) (by decide) ?_
                refine WL.split 89 (b := t112) (by kernel_rfl) (fun hc => ?_) (fun hc => ?_)
                · replace hc := hc
                  rw [if_pos hc] at h
                  have hc117 := hc
                  clear hc
                  refine WL.tell (op := .load 25 (.tmp 12)) (ty := 25) (d := some 90) (g := some (26, true)) (by kernel_rfl) (by kernel_rfl) (by kernel_rfl) (Tells.load_box (i := 0) (b := b59) (o := 0) (agg := true) (by rfl) ag25 (by kernel_rfl) (fun h => by cases h) (Nat.le_of_ble_eq_true rfl) (v := .agg #[.int .i64 8, .int .i64 0, .slice none 0 0, .slice (some ⟨b56, 0, none⟩) ([a0, a1] : List T25).length 2]) (by kernel_rfl)) ?_
                  refine WL.tell (op := .load 31 (.tmp 5)) (ty := 31) (d := some 91) (g := some (26, true)) (by kernel_rfl) (by kernel_rfl) (by kernel_rfl) (Tells.load_box (i := 8) (b := b3) (o := 0) (agg := true) (by rfl) ag31 (by kernel_rfl) (fun h => by cases h) (Nat.le_of_ble_eq_true rfl) (v := .agg #[.int .i64 a2.f0, .int .i64 a2.f1, .int .i64 a2.f2, .int .i64 a2.f3, .string a2.f4]) (by kernel_rfl)) ?_
                  rw [Option.bind_eq_some_iff] at h
                  obtain ⟨t118, ht119, h⟩ := h
                  refine WL.op (op := .call { callee := (.value (.func 12)), args := #[(.tmp 90), (.tmp 91)], argTypes := #[25, 31] }) (ty := 4) (d := some 92) (g := some (26, true)) (by kernel_rfl) (by kernel_rfl) (by kernel_rfl) (Does.call (Φ := fun v' G' Γ' => v' = .bool t118 ∧ G = G' ∧ [(b59, .cells #[.int .i64 8, .int .i64 0, .slice none 0 0, .slice (some ⟨b56, 0, none⟩) ([a0, a1] : List T25).length 2] 25 (0, 0))] :: [(b56, .cells #[.int .i64 a0.f0, .int .i64 a0.f1, .slice Aa0_f2 a0.f2.length ca0_f2, .slice Aa0_f3 a0.f3.length ca0_f3, .int .i64 a1.f0, .int .i64 a1.f1, .slice Aa1_f2 a1.f2.length ca1_f2, .slice Aa1_f3 a1.f3.length ca1_f3] 25 (0, 0))] :: [(b55, .cells #[.int .i64 7, .int .i64 0, .slice none 0 0, .slice (some ⟨b52, 0, none⟩) ([a0, a1] : List T25).length 2] 25 (0, 0))] :: [(b52, .cells #[.int .i64 a0.f0, .int .i64 a0.f1, .slice Aa0_f2 a0.f2.length ca0_f2, .slice Aa0_f3 a0.f3.length ca0_f3, .int .i64 a1.f0, .int .i64 a1.f1, .slice Aa1_f2 a1.f2.length ca1_f2, .slice Aa1_f3 a1.f3.length ca1_f3] 25 (0, 0))] :: [(b51, .cells #[.int .i64 9, .int .i64 0, .slice none 0 0, .slice (some ⟨b47, 0, none⟩) ([a1] : List T25).length 1] 25 (0, 0))] :: [(b50, .cells #[.int .i64 9, .int .i64 0, .slice none 0 0, .slice (some ⟨b44, 0, none⟩) ([a0] : List T25).length 1] 25 (0, 0))] :: [(b47, .cells #[.int .i64 a1.f0, .int .i64 a1.f1, .slice Aa1_f2 a1.f2.length ca1_f2, .slice Aa1_f3 a1.f3.length ca1_f3] 25 (0, 0))] :: [(b44, .cells #[.int .i64 a0.f0, .int .i64 a0.f1, .slice Aa0_f2 a0.f2.length ca0_f2, .slice Aa0_f3 a0.f3.length ca0_f3] 25 (0, 0))] :: [(b3, .cells #[.int .i64 a2.f0, .int .i64 a2.f1, .int .i64 a2.f2, .int .i64 a2.f3, .string a2.f4] 31 (0, 0))] :: Γ = Γ') (f := 12) (args := [.agg #[.int .i64 8, .int .i64 0, .slice none 0 0, .slice (some ⟨b56, 0, none⟩) ([a0, a1] : List T25).length 2], .agg #[.int .i64 a2.f0, .int .i64 a2.f1, .int .i64 a2.f2, .int .i64 a2.f3, .string a2.f4]]) (by kernel_rfl) (fun W hI => (Calls.lendN (Φ := fun v' N => v' = .bool t118 ∧ N = []) (H := []) (i := 1) rfl hI (fun _ e l122 nl122 hI => by subst e; exact (((deem_Holds_calls (HT.mono l122) k (⟨8, 0, ([] : List ByteArray), ([a0, a1] : List T25)⟩ : T25) a2 none 0 (Rd.nil _ _ _ _) (some ⟨b56, 0, none⟩) 2 (Ho58.rdN l122 nl122) t118 ht119 hI)).mono fun _ _ hr => by obtain ⟨_, _, _, rfl, hd, hI⟩ := hr; obtain ⟨rfl, rfl, rfl⟩ := hd; exact ⟨_, _, _, rfl, ⟨[], ⟨rfl, rfl⟩, rfl, rfl⟩, hI⟩))).mono fun _ _ hr => by obtain ⟨_, _, _, rfl, ⟨_, hd, rfl, rfl⟩, hI⟩ := hr; obtain ⟨rfl, rfl⟩ := hd; exact ⟨_, _, _, rfl, ⟨rfl, rfl, rfl⟩, hI⟩)) ?_
                  rintro _ _ _ ⟨rfl, rfl, rfl⟩
                  refine WL.pure 30 32 [5, 8, 9, 10, 11, 86, 89, 92, 94] (L' := [(5, .pointer (some ⟨b3, 0, none⟩)), (8, .bool t40), (9, .pointer (some ⟨b50, 0, none⟩)), (10, .pointer (some ⟨b51, 0, none⟩)), (11, .pointer (some ⟨b55, 0, none⟩)), (86, .bool false), (89, .bool true), (92, .bool t118), (94, .bool t36)]) (by kernel_rfl) (by decide) ?_
                  refine WL.split 94 (b := t36) (by kernel_rfl) (fun hc => ?_) (fun hc => ?_)
                  · replace hc := hc
                    rw [if_pos hc] at h
                    have hc123 := hc
                    clear hc
                    refine WL.rest 32 [5, 9, 10, 11, 99] (L' := [(5, .pointer (some ⟨b3, 0, none⟩)), (9, .pointer (some ⟨b50, 0, none⟩)), (10, .pointer (some ⟨b51, 0, none⟩)), (11, .pointer (some ⟨b55, 0, none⟩)), (99, .bool (!(t118 == true)))]) (by kernel_rfl) ?_
                    refine QP.dropAt 1 ?_
                    refine QP.dropAt 0 ?_
                    refine QP.pick [5, 9, 10, 11, 99] ?_
                    exact QP.meet ⟨_, Option.some.inj h, rfl, rfl, rfl⟩
                  · replace hc := (Bool.eq_false_iff.1 hc)
                    rw [if_neg hc] at h
                    have hc123 := hc
                    clear hc
                    refine WL.rest 32 [5, 9, 10, 11, 99] (L' := [(5, .pointer (some ⟨b3, 0, none⟩)), (9, .pointer (some ⟨b50, 0, none⟩)), (10, .pointer (some ⟨b51, 0, none⟩)), (11, .pointer (some ⟨b55, 0, none⟩)), (99, .bool (!(t118 == t40)))]) (by kernel_rfl) ?_
                    refine QP.dropAt 1 ?_
                    refine QP.dropAt 0 ?_
                    refine QP.pick [5, 9, 10, 11, 99] ?_
                    exact QP.meet ⟨_, Option.some.inj h, rfl, rfl, rfl⟩
                · replace hc := (Bool.eq_false_iff.1 hc)
                  rw [if_neg hc] at h
                  have hc117 := hc
                  clear hc
                  refine WL.rest 27 [5, 9, 10, 11, 99] (L' := [(5, .pointer (some ⟨b3, 0, none⟩)), (9, .pointer (some ⟨b50, 0, none⟩)), (10, .pointer (some ⟨b51, 0, none⟩)), (11, .pointer (some ⟨b55, 0, none⟩)), (99, .bool false)]) (by kernel_rfl) ?_
                  refine QP.dropAt 1 ?_
                  refine QP.dropAt 0 ?_
                  refine QP.pick [5, 9, 10, 11, 99] ?_
                  exact QP.meet ⟨_, Option.some.inj h, rfl, rfl, rfl⟩
          · replace hc := (Bool.eq_false_iff.1 hc)
            rw [if_neg hc] at h
            have hc67 := hc
            clear hc
            refine WL.pure 3 10 [5, 7, 8, 9, 10, 11, 12, 72] (L' := [(5, .pointer (some ⟨b3, 0, none⟩)), (7, .bool t36), (8, .bool t40), (9, .pointer (some ⟨b50, 0, none⟩)), (10, .pointer (some ⟨b51, 0, none⟩)), (11, .pointer (some ⟨b55, 0, none⟩)), (12, .pointer (some ⟨b59, 0, none⟩)), (72, .bool false)]) (by kernel_rfl) (by decide) ?_
            refine WL.tell (op := .load 25 (.tmp 11)) (ty := 25) (d := some 73) (g := some (9, false)) (by kernel_rfl) (by kernel_rfl) (by kernel_rfl) (Tells.load_box (i := 2) (b := b55) (o := 0) (agg := true) (by rfl) ag25 (by kernel_rfl) (fun h => by cases h) (Nat.le_of_ble_eq_true rfl) (v := .agg #[.int .i64 7, .int .i64 0, .slice none 0 0, .slice (some ⟨b52, 0, none⟩) ([a0, a1] : List T25).length 2]) (by kernel_rfl)) ?_
            rw [Option.bind_eq_some_iff] at h
            obtain ⟨t124, ht125, h⟩ := h
            refine WL.op (op := .call { callee := (.value (.func 16)), args := #[(.tmp 73)], argTypes := #[25] }) (ty := 4) (d := some 74) (g := some (9, false)) (by kernel_rfl) (by kernel_rfl) (by kernel_rfl) (Does.call (Φ := fun v' G' Γ' => v' = .bool t124 ∧ G = G' ∧ [(b59, .cells #[.int .i64 8, .int .i64 0, .slice none 0 0, .slice (some ⟨b56, 0, none⟩) ([a0, a1] : List T25).length 2] 25 (0, 0))] :: [(b56, .cells #[.int .i64 a0.f0, .int .i64 a0.f1, .slice Aa0_f2 a0.f2.length ca0_f2, .slice Aa0_f3 a0.f3.length ca0_f3, .int .i64 a1.f0, .int .i64 a1.f1, .slice Aa1_f2 a1.f2.length ca1_f2, .slice Aa1_f3 a1.f3.length ca1_f3] 25 (0, 0))] :: [(b55, .cells #[.int .i64 7, .int .i64 0, .slice none 0 0, .slice (some ⟨b52, 0, none⟩) ([a0, a1] : List T25).length 2] 25 (0, 0))] :: [(b52, .cells #[.int .i64 a0.f0, .int .i64 a0.f1, .slice Aa0_f2 a0.f2.length ca0_f2, .slice Aa0_f3 a0.f3.length ca0_f3, .int .i64 a1.f0, .int .i64 a1.f1, .slice Aa1_f2 a1.f2.length ca1_f2, .slice Aa1_f3 a1.f3.length ca1_f3] 25 (0, 0))] :: [(b51, .cells #[.int .i64 9, .int .i64 0, .slice none 0 0, .slice (some ⟨b47, 0, none⟩) ([a1] : List T25).length 1] 25 (0, 0))] :: [(b50, .cells #[.int .i64 9, .int .i64 0, .slice none 0 0, .slice (some ⟨b44, 0, none⟩) ([a0] : List T25).length 1] 25 (0, 0))] :: [(b47, .cells #[.int .i64 a1.f0, .int .i64 a1.f1, .slice Aa1_f2 a1.f2.length ca1_f2, .slice Aa1_f3 a1.f3.length ca1_f3] 25 (0, 0))] :: [(b44, .cells #[.int .i64 a0.f0, .int .i64 a0.f1, .slice Aa0_f2 a0.f2.length ca0_f2, .slice Aa0_f3 a0.f3.length ca0_f3] 25 (0, 0))] :: [(b3, .cells #[.int .i64 a2.f0, .int .i64 a2.f1, .int .i64 a2.f2, .int .i64 a2.f3, .string a2.f4] 31 (0, 0))] :: Γ = Γ') (f := 16) (args := [.agg #[.int .i64 7, .int .i64 0, .slice none 0 0, .slice (some ⟨b52, 0, none⟩) ([a0, a1] : List T25).length 2]]) (by kernel_rfl) (fun W hI => (Calls.lendN (Φ := fun v' N => v' = .bool t124 ∧ N = []) (H := []) (i := 3) rfl hI (fun _ e l128 nl128 hI => by subst e; exact (((ask_May_calls (HT.mono l128) k (⟨7, 0, ([] : List ByteArray), ([a0, a1] : List T25)⟩ : T25) none 0 (Rd.nil _ _ _ _) (some ⟨b52, 0, none⟩) 2 (Ho54.rdN l128 nl128) t124 ht125 hI)).mono fun _ _ hr => by obtain ⟨_, _, _, rfl, hd, hI⟩ := hr; obtain ⟨rfl, rfl, rfl⟩ := hd; exact ⟨_, _, _, rfl, ⟨[], ⟨rfl, rfl⟩, rfl, rfl⟩, hI⟩))).mono fun _ _ hr => by obtain ⟨_, _, _, rfl, ⟨_, hd, rfl, rfl⟩, hI⟩ := hr; obtain ⟨rfl, rfl⟩ := hd; exact ⟨_, _, _, rfl, ⟨rfl, rfl, rfl⟩, hI⟩)) ?_
            rintro _ _ _ ⟨rfl, rfl, rfl⟩
            refine WL.pure 12 13 [5, 7, 8, 9, 10, 11, 12, 72, 75] (L' := [(5, .pointer (some ⟨b3, 0, none⟩)), (7, .bool t36), (8, .bool t40), (9, .pointer (some ⟨b50, 0, none⟩)), (10, .pointer (some ⟨b51, 0, none⟩)), (11, .pointer (some ⟨b55, 0, none⟩)), (12, .pointer (some ⟨b59, 0, none⟩)), (72, .bool false), (75, .bool t124)]) (by kernel_rfl) (by decide) ?_
            refine WL.split 75 (b := t124) (by kernel_rfl) (fun hc => ?_) (fun hc => ?_)
            · replace hc := hc
              rw [if_pos hc] at h
              have hc129 := hc
              clear hc
              refine WL.tell (op := .load 25 (.tmp 11)) (ty := 25) (d := some 76) (g := some (12, true)) (by kernel_rfl) (by kernel_rfl) (by kernel_rfl) (Tells.load_box (i := 2) (b := b55) (o := 0) (agg := true) (by rfl) ag25 (by kernel_rfl) (fun h => by cases h) (Nat.le_of_ble_eq_true rfl) (v := .agg #[.int .i64 7, .int .i64 0, .slice none 0 0, .slice (some ⟨b52, 0, none⟩) ([a0, a1] : List T25).length 2]) (by kernel_rfl)) ?_
              refine WL.tell (op := .load 31 (.tmp 5)) (ty := 31) (d := some 77) (g := some (12, true)) (by kernel_rfl) (by kernel_rfl) (by kernel_rfl) (Tells.load_box (i := 8) (b := b3) (o := 0) (agg := true) (by rfl) ag31 (by kernel_rfl) (fun h => by cases h) (Nat.le_of_ble_eq_true rfl) (v := .agg #[.int .i64 a2.f0, .int .i64 a2.f1, .int .i64 a2.f2, .int .i64 a2.f3, .string a2.f4]) (by kernel_rfl)) ?_
              rw [Option.bind_eq_some_iff] at h
              obtain ⟨t130, ht131, h⟩ := h
              refine WL.op (op := .call { callee := (.value (.func 12)), args := #[(.tmp 76), (.tmp 77)], argTypes := #[25, 31] }) (ty := 4) (d := some 78) (g := some (12, true)) (by kernel_rfl) (by kernel_rfl) (by kernel_rfl) (Does.call (Φ := fun v' G' Γ' => v' = .bool t130 ∧ G = G' ∧ [(b59, .cells #[.int .i64 8, .int .i64 0, .slice none 0 0, .slice (some ⟨b56, 0, none⟩) ([a0, a1] : List T25).length 2] 25 (0, 0))] :: [(b56, .cells #[.int .i64 a0.f0, .int .i64 a0.f1, .slice Aa0_f2 a0.f2.length ca0_f2, .slice Aa0_f3 a0.f3.length ca0_f3, .int .i64 a1.f0, .int .i64 a1.f1, .slice Aa1_f2 a1.f2.length ca1_f2, .slice Aa1_f3 a1.f3.length ca1_f3] 25 (0, 0))] :: [(b55, .cells #[.int .i64 7, .int .i64 0, .slice none 0 0, .slice (some ⟨b52, 0, none⟩) ([a0, a1] : List T25).length 2] 25 (0, 0))] :: [(b52, .cells #[.int .i64 a0.f0, .int .i64 a0.f1, .slice Aa0_f2 a0.f2.length ca0_f2, .slice Aa0_f3 a0.f3.length ca0_f3, .int .i64 a1.f0, .int .i64 a1.f1, .slice Aa1_f2 a1.f2.length ca1_f2, .slice Aa1_f3 a1.f3.length ca1_f3] 25 (0, 0))] :: [(b51, .cells #[.int .i64 9, .int .i64 0, .slice none 0 0, .slice (some ⟨b47, 0, none⟩) ([a1] : List T25).length 1] 25 (0, 0))] :: [(b50, .cells #[.int .i64 9, .int .i64 0, .slice none 0 0, .slice (some ⟨b44, 0, none⟩) ([a0] : List T25).length 1] 25 (0, 0))] :: [(b47, .cells #[.int .i64 a1.f0, .int .i64 a1.f1, .slice Aa1_f2 a1.f2.length ca1_f2, .slice Aa1_f3 a1.f3.length ca1_f3] 25 (0, 0))] :: [(b44, .cells #[.int .i64 a0.f0, .int .i64 a0.f1, .slice Aa0_f2 a0.f2.length ca0_f2, .slice Aa0_f3 a0.f3.length ca0_f3] 25 (0, 0))] :: [(b3, .cells #[.int .i64 a2.f0, .int .i64 a2.f1, .int .i64 a2.f2, .int .i64 a2.f3, .string a2.f4] 31 (0, 0))] :: Γ = Γ') (f := 12) (args := [.agg #[.int .i64 7, .int .i64 0, .slice none 0 0, .slice (some ⟨b52, 0, none⟩) ([a0, a1] : List T25).length 2], .agg #[.int .i64 a2.f0, .int .i64 a2.f1, .int .i64 a2.f2, .int .i64 a2.f3, .string a2.f4]]) (by kernel_rfl) (fun W hI => (Calls.lendN (Φ := fun v' N => v' = .bool t130 ∧ N = []) (H := []) (i := 3) rfl hI (fun _ e l134 nl134 hI => by subst e; exact (((deem_Holds_calls (HT.mono l134) k (⟨7, 0, ([] : List ByteArray), ([a0, a1] : List T25)⟩ : T25) a2 none 0 (Rd.nil _ _ _ _) (some ⟨b52, 0, none⟩) 2 (Ho54.rdN l134 nl134) t130 ht131 hI)).mono fun _ _ hr => by obtain ⟨_, _, _, rfl, hd, hI⟩ := hr; obtain ⟨rfl, rfl, rfl⟩ := hd; exact ⟨_, _, _, rfl, ⟨[], ⟨rfl, rfl⟩, rfl, rfl⟩, hI⟩))).mono fun _ _ hr => by obtain ⟨_, _, _, rfl, ⟨_, hd, rfl, rfl⟩, hI⟩ := hr; obtain ⟨rfl, rfl⟩ := hd; exact ⟨_, _, _, rfl, ⟨rfl, rfl, rfl⟩, hI⟩)) ?_
              rintro _ _ _ ⟨rfl, rfl, rfl⟩
              refine WL.pure 16 18 [5, 7, 8, 9, 10, 11, 12, 72, 75, 78, 80] (L' := [(5, .pointer (some ⟨b3, 0, none⟩)), (7, .bool t36), (8, .bool t40), (9, .pointer (some ⟨b50, 0, none⟩)), (10, .pointer (some ⟨b51, 0, none⟩)), (11, .pointer (some ⟨b55, 0, none⟩)), (12, .pointer (some ⟨b59, 0, none⟩)), (72, .bool false), (75, .bool true), (78, .bool t130), (80, .bool t36)]) (by kernel_rfl) (by decide) ?_
              refine WL.split 80 (b := t36) (by kernel_rfl) (fun hc => ?_) (fun hc => ?_)
              · replace hc := hc
                rw [if_pos hc] at h
                have hc135 := hc
                clear hc
                refine WL.pure 18 24 [5, 7, 8, 9, 10, 11, 12, 86] (L' := [(5, .pointer (some ⟨b3, 0, none⟩)), (7, .bool t36), (8, .bool t40), (9, .pointer (some ⟨b50, 0, none⟩)), (10, .pointer (some ⟨b51, 0, none⟩)), (11, .pointer (some ⟨b55, 0, none⟩)), (12, .pointer (some ⟨b59, 0, none⟩)), (86, .bool (!(t130 == t40)))]) (by kernel_rfl) (by decide) ?_
                refine WL.split 86 (b := (!(t130 == t40))) (by kernel_rfl) (fun hc => ?_) (fun hc => ?_)
                · replace hc := hc
                  rw [if_pos hc] at h
                  have hc136 := hc
                  clear hc
                  refine WL.rest 24 [5, 9, 10, 11, 99] (L' := [(5, .pointer (some ⟨b3, 0, none⟩)), (9, .pointer (some ⟨b50, 0, none⟩)), (10, .pointer (some ⟨b51, 0, none⟩)), (11, .pointer (some ⟨b55, 0, none⟩)), (99, .bool true)]) (by kernel_rfl) ?_
                  refine QP.dropAt 1 ?_
                  refine QP.dropAt 0 ?_
                  refine QP.pick [5, 9, 10, 11, 99] ?_
                  exact QP.meet ⟨_, Option.some.inj h, rfl, rfl, rfl⟩
                · replace hc := (Bool.eq_false_iff.1 hc)
                  rw [if_neg hc] at h
                  have hc136 := hc
                  clear hc
                  refine WL.tell (op := .load 25 (.tmp 12)) (ty := 25) (d := some 87) (g := some (23, false)) (by kernel_rfl) (by kernel_rfl) (by kernel_rfl) (Tells.load_box (i := 0) (b := b59) (o := 0) (agg := true) (by rfl) ag25 (by kernel_rfl) (fun h => by cases h) (Nat.le_of_ble_eq_true rfl) (v := .agg #[.int .i64 8, .int .i64 0, .slice none 0 0, .slice (some ⟨b56, 0, none⟩) ([a0, a1] : List T25).length 2]) (by kernel_rfl)) ?_
                  rw [Option.bind_eq_some_iff] at h
                  obtain ⟨t137, ht138, h⟩ := h
                  refine WL.op (op := .call { callee := (.value (.func 16)), args := #[(.tmp 87)], argTypes := #[25] }) (ty := 4) (d := some 88) (g := some (23, false)) (by kernel_rfl) (by kernel_rfl) (by kernel_rfl) (Does.call (Φ := fun v' G' Γ' => v' = .bool t137 ∧ G = G' ∧ [(b59, .cells #[.int .i64 8, .int .i64 0, .slice none 0 0, .slice (some ⟨b56, 0, none⟩) ([a0, a1] : List T25).length 2] 25 (0, 0))] :: [(b56, .cells #[.int .i64 a0.f0, .int .i64 a0.f1, .slice Aa0_f2 a0.f2.length ca0_f2, .slice Aa0_f3 a0.f3.length ca0_f3, .int .i64 a1.f0, .int .i64 a1.f1, .slice Aa1_f2 a1.f2.length ca1_f2, .slice Aa1_f3 a1.f3.length ca1_f3] 25 (0, 0))] :: [(b55, .cells #[.int .i64 7, .int .i64 0, .slice none 0 0, .slice (some ⟨b52, 0, none⟩) ([a0, a1] : List T25).length 2] 25 (0, 0))] :: [(b52, .cells #[.int .i64 a0.f0, .int .i64 a0.f1, .slice Aa0_f2 a0.f2.length ca0_f2, .slice Aa0_f3 a0.f3.length ca0_f3, .int .i64 a1.f0, .int .i64 a1.f1, .slice Aa1_f2 a1.f2.length ca1_f2, .slice Aa1_f3 a1.f3.length ca1_f3] 25 (0, 0))] :: [(b51, .cells #[.int .i64 9, .int .i64 0, .slice none 0 0, .slice (some ⟨b47, 0, none⟩) ([a1] : List T25).length 1] 25 (0, 0))] :: [(b50, .cells #[.int .i64 9, .int .i64 0, .slice none 0 0, .slice (some ⟨b44, 0, none⟩) ([a0] : List T25).length 1] 25 (0, 0))] :: [(b47, .cells #[.int .i64 a1.f0, .int .i64 a1.f1, .slice Aa1_f2 a1.f2.length ca1_f2, .slice Aa1_f3 a1.f3.length ca1_f3] 25 (0, 0))] :: [(b44, .cells #[.int .i64 a0.f0, .int .i64 a0.f1, .slice Aa0_f2 a0.f2.length ca0_f2, .slice Aa0_f3 a0.f3.length ca0_f3] 25 (0, 0))] :: [(b3, .cells #[.int .i64 a2.f0, .int .i64 a2.f1, .int .i64 a2.f2, .int .i64 a2.f3, .string a2.f4] 31 (0, 0))] :: Γ = Γ') (f := 16) (args := [.agg #[.int .i64 8, .int .i64 0, .slice none 0 0, .slice (some ⟨b56, 0, none⟩) ([a0, a1] : List T25).length 2]]) (by kernel_rfl) (fun W hI => (Calls.lendN (Φ := fun v' N => v' = .bool t137 ∧ N = []) (H := []) (i := 1) rfl hI (fun _ e l141 nl141 hI => by subst e; exact (((ask_May_calls (HT.mono l141) k (⟨8, 0, ([] : List ByteArray), ([a0, a1] : List T25)⟩ : T25) none 0 (Rd.nil _ _ _ _) (some ⟨b56, 0, none⟩) 2 (Ho58.rdN l141 nl141) t137 ht138 hI)).mono fun _ _ hr => by obtain ⟨_, _, _, rfl, hd, hI⟩ := hr; obtain ⟨rfl, rfl, rfl⟩ := hd; exact ⟨_, _, _, rfl, ⟨[], ⟨rfl, rfl⟩, rfl, rfl⟩, hI⟩))).mono fun _ _ hr => by obtain ⟨_, _, _, rfl, ⟨_, hd, rfl, rfl⟩, hI⟩ := hr; obtain ⟨rfl, rfl⟩ := hd; exact ⟨_, _, _, rfl, ⟨rfl, rfl, rfl⟩, hI⟩)) ?_
                  rintro _ _ _ ⟨rfl, rfl, rfl⟩
                  refine WL.pure 26 27 [5, 7, 8, 9, 10, 11, 12, 86, 89] (L' := [(5, .pointer (some ⟨b3, 0, none⟩)), (7, .bool t36), (8, .bool t40), (9, .pointer (some ⟨b50, 0, none⟩)), (10, .pointer (some ⟨b51, 0, none⟩)), (11, .pointer (some ⟨b55, 0, none⟩)), (12, .pointer (some ⟨b59, 0, none⟩)), (86, .bool false), (89, .bool t137)]) (by kernel_rfl) (by decide) ?_
                  refine WL.split 89 (b := t137) (by kernel_rfl) (fun hc => ?_) (fun hc => ?_)
                  · replace hc := hc
                    rw [if_pos hc] at h
                    have hc142 := hc
                    clear hc
                    refine WL.tell (op := .load 25 (.tmp 12)) (ty := 25) (d := some 90) (g := some (26, true)) (by kernel_rfl) (by kernel_rfl) (by kernel_rfl) (Tells.load_box (i := 0) (b := b59) (o := 0) (agg := true) (by rfl) ag25 (by kernel_rfl) (fun h => by cases h) (Nat.le_of_ble_eq_true rfl) (v := .agg #[.int .i64 8, .int .i64 0, .slice none 0 0, .slice (some ⟨b56, 0, none⟩) ([a0, a1] : List T25).length 2]) (by kernel_rfl)) ?_
                    refine WL.tell (op := .load 31 (.tmp 5)) (ty := 31) (d := some 91) (g := some (26, true)) (by kernel_rfl) (by kernel_rfl) (by kernel_rfl) (Tells.load_box (i := 8) (b := b3) (o := 0) (agg := true) (by rfl) ag31 (by kernel_rfl) (fun h => by cases h) (Nat.le_of_ble_eq_true rfl) (v := .agg #[.int .i64 a2.f0, .int .i64 a2.f1, .int .i64 a2.f2, .int .i64 a2.f3, .string a2.f4]) (by kernel_rfl)) ?_
                    rw [Option.bind_eq_some_iff] at h
                    obtain ⟨t143, ht144, h⟩ := h
                    refine WL.op (op := .call { callee := (.value (.func 12)), args := #[(.tmp 90), (.tmp 91)], argTypes := #[25, 31] }) (ty := 4) (d := some 92) (g := some (26, true)) (by kernel_rfl) (by kernel_rfl) (by kernel_rfl) (Does.call (Φ := fun v' G' Γ' => v' = .bool t143 ∧ G = G' ∧ [(b59, .cells #[.int .i64 8, .int .i64 0, .slice none 0 0, .slice (some ⟨b56, 0, none⟩) ([a0, a1] : List T25).length 2] 25 (0, 0))] :: [(b56, .cells #[.int .i64 a0.f0, .int .i64 a0.f1, .slice Aa0_f2 a0.f2.length ca0_f2, .slice Aa0_f3 a0.f3.length ca0_f3, .int .i64 a1.f0, .int .i64 a1.f1, .slice Aa1_f2 a1.f2.length ca1_f2, .slice Aa1_f3 a1.f3.length ca1_f3] 25 (0, 0))] :: [(b55, .cells #[.int .i64 7, .int .i64 0, .slice none 0 0, .slice (some ⟨b52, 0, none⟩) ([a0, a1] : List T25).length 2] 25 (0, 0))] :: [(b52, .cells #[.int .i64 a0.f0, .int .i64 a0.f1, .slice Aa0_f2 a0.f2.length ca0_f2, .slice Aa0_f3 a0.f3.length ca0_f3, .int .i64 a1.f0, .int .i64 a1.f1, .slice Aa1_f2 a1.f2.length ca1_f2, .slice Aa1_f3 a1.f3.length ca1_f3] 25 (0, 0))] :: [(b51, .cells #[.int .i64 9, .int .i64 0, .slice none 0 0, .slice (some ⟨b47, 0, none⟩) ([a1] : List T25).length 1] 25 (0, 0))] :: [(b50, .cells #[.int .i64 9, .int .i64 0, .slice none 0 0, .slice (some ⟨b44, 0, none⟩) ([a0] : List T25).length 1] 25 (0, 0))] :: [(b47, .cells #[.int .i64 a1.f0, .int .i64 a1.f1, .slice Aa1_f2 a1.f2.length ca1_f2, .slice Aa1_f3 a1.f3.length ca1_f3] 25 (0, 0))] :: [(b44, .cells #[.int .i64 a0.f0, .int .i64 a0.f1, .slice Aa0_f2 a0.f2.length ca0_f2, .slice Aa0_f3 a0.f3.length ca0_f3] 25 (0, 0))] :: [(b3, .cells #[.int .i64 a2.f0, .int .i64 a2.f1, .int .i64 a2.f2, .int .i64 a2.f3, .string a2.f4] 31 (0, 0))] :: Γ = Γ') (f := 12) (args := [.agg #[.int .i64 8, .int .i64 0, .slice none 0 0, .slice (some ⟨b56, 0, none⟩) ([a0, a1] : List T25).length 2], .agg #[.int .i64 a2.f0, .int .i64 a2.f1, .int .i64 a2.f2, .int .i64 a2.f3, .string a2.f4]]) (by kernel_rfl) (fun W hI => (Calls.lendN (Φ := fun v' N => v' = .bool t143 ∧ N = []) (H := []) (i := 1) rfl hI (fun _ e l147 nl147 hI => by subst e; exact (((deem_Holds_calls (HT.mono l147) k (⟨8, 0, ([] : List ByteArray), ([a0, a1] : List T25)⟩ : T25) a2 none 0 (Rd.nil _ _ _ _) (some ⟨b56, 0, none⟩) 2 (Ho58.rdN l147 nl147) t143 ht144 hI)).mono fun _ _ hr => by obtain ⟨_, _, _, rfl, hd, hI⟩ := hr; obtain ⟨rfl, rfl, rfl⟩ := hd; exact ⟨_, _, _, rfl, ⟨[], ⟨rfl, rfl⟩, rfl, rfl⟩, hI⟩))).mono fun _ _ hr => by obtain ⟨_, _, _, rfl, ⟨_, hd, rfl, rfl⟩, hI⟩ := hr; obtain ⟨rfl, rfl⟩ := hd; exact ⟨_, _, _, rfl, ⟨rfl, rfl, rfl⟩, hI⟩)) ?_
                    rintro _ _ _ ⟨rfl, rfl, rfl⟩
                    refine WL.pure 30 32 [5, 8, 9, 10, 11, 86, 89, 92, 94] (L' := [(5, .pointer (some ⟨b3, 0, none⟩)), (8, .bool t40), (9, .pointer (some ⟨b50, 0, none⟩)), (10, .pointer (some ⟨b51, 0, none⟩)), (11, .pointer (some ⟨b55, 0, none⟩)), (86, .bool false), (89, .bool true), (92, .bool t143), (94, .bool t36)]) (by kernel_rfl) (by decide) ?_
                    refine WL.split 94 (b := t36) (by kernel_rfl) (fun hc => ?_) (fun hc => ?_)
                    · replace hc := hc
                      rw [if_pos hc] at h
                      have hc148 := hc
                      clear hc
                      refine WL.rest 32 [5, 9, 10, 11, 99] (L' := [(5, .pointer (some ⟨b3, 0, none⟩)), (9, .pointer (some ⟨b50, 0, none⟩)), (10, .pointer (some ⟨b51, 0, none⟩)), (11, .pointer (some ⟨b55, 0, none⟩)), (99, .bool (!(t143 == true)))]) (by kernel_rfl) ?_
                      refine QP.dropAt 1 ?_
                      refine QP.dropAt 0 ?_
                      refine QP.pick [5, 9, 10, 11, 99] ?_
                      exact QP.meet ⟨_, Option.some.inj h, rfl, rfl, rfl⟩
                    · replace hc := (Bool.eq_false_iff.1 hc)
                      rw [if_neg hc] at h
                      have hc148 := hc
                      clear hc
                      refine WL.rest 32 [5, 9, 10, 11, 99] (L' := [(5, .pointer (some ⟨b3, 0, none⟩)), (9, .pointer (some ⟨b50, 0, none⟩)), (10, .pointer (some ⟨b51, 0, none⟩)), (11, .pointer (some ⟨b55, 0, none⟩)), (99, .bool (!(t143 == t40)))]) (by kernel_rfl) ?_
                      refine QP.dropAt 1 ?_
                      refine QP.dropAt 0 ?_
                      refine QP.pick [5, 9, 10, 11, 99] ?_
                      exact QP.meet ⟨_, Option.some.inj h, rfl, rfl, rfl⟩
                  · replace hc := (Bool.eq_false_iff.1 hc)
                    rw [if_neg hc] at h
                    have hc142 := hc
                    clear hc
                    refine WL.rest 27 [5, 9, 10, 11, 99] (L' := [(5, .pointer (some ⟨b3, 0, none⟩)), (9, .pointer (some ⟨b50, 0, none⟩)), (10, .pointer (some ⟨b51, 0, none⟩)), (11, .pointer (some ⟨b55, 0, none⟩)), (99, .bool false)]) (by kernel_rfl) ?_
                    refine QP.dropAt 1 ?_
                    refine QP.dropAt 0 ?_
                    refine QP.pick [5, 9, 10, 11, 99] ?_
                    exact QP.meet ⟨_, Option.some.inj h, rfl, rfl, rfl⟩
              · replace hc := (Bool.eq_false_iff.1 hc)
                rw [if_neg hc] at h
                have hc135 := hc
                clear hc
                refine WL.pure 18 24 [5, 7, 8, 9, 10, 11, 12, 86] (L' := [(5, .pointer (some ⟨b3, 0, none⟩)), (7, .bool t36), (8, .bool t40), (9, .pointer (some ⟨b50, 0, none⟩)), (10, .pointer (some ⟨b51, 0, none⟩)), (11, .pointer (some ⟨b55, 0, none⟩)), (12, .pointer (some ⟨b59, 0, none⟩)), (86, .bool (!(t130 == false)))]) (by kernel_rfl) (by decide) ?_
                refine WL.split 86 (b := (!(t130 == false))) (by kernel_rfl) (fun hc => ?_) (fun hc => ?_)
                · replace hc := hc
                  rw [if_pos hc] at h
                  have hc149 := hc
                  clear hc
                  refine WL.rest 24 [5, 9, 10, 11, 99] (L' := [(5, .pointer (some ⟨b3, 0, none⟩)), (9, .pointer (some ⟨b50, 0, none⟩)), (10, .pointer (some ⟨b51, 0, none⟩)), (11, .pointer (some ⟨b55, 0, none⟩)), (99, .bool true)]) (by kernel_rfl) ?_
                  refine QP.dropAt 1 ?_
                  refine QP.dropAt 0 ?_
                  refine QP.pick [5, 9, 10, 11, 99] ?_
                  exact QP.meet ⟨_, Option.some.inj h, rfl, rfl, rfl⟩
                · replace hc := (Bool.eq_false_iff.1 hc)
                  rw [if_neg hc] at h
                  have hc149 := hc
                  clear hc
                  refine WL.tell (op := .load 25 (.tmp 12)) (ty := 25) (d := some 87) (g := some (23, false)) (by kernel_rfl) (by kernel_rfl) (by kernel_rfl) (Tells.load_box (i := 0) (b := b59) (o := 0) (agg := true) (by rfl) ag25 (by kernel_rfl) (fun h => by cases h) (Nat.le_of_ble_eq_true rfl) (v := .agg #[.int .i64 8, .int .i64 0, .slice none 0 0, .slice (some ⟨b56, 0, none⟩) ([a0, a1] : List T25).length 2]) (by kernel_rfl)) ?_
                  rw [Option.bind_eq_some_iff] at h
                  obtain ⟨t150, ht151, h⟩ := h
                  refine WL.op (op := .call { callee := (.value (.func 16)), args := #[(.tmp 87)], argTypes := #[25] }) (ty := 4) (d := some 88) (g := some (23, false)) (by kernel_rfl) (by kernel_rfl) (by kernel_rfl) (Does.call (Φ := fun v' G' Γ' => v' = .bool t150 ∧ G = G' ∧ [(b59, .cells #[.int .i64 8, .int .i64 0, .slice none 0 0, .slice (some ⟨b56, 0, none⟩) ([a0, a1] : List T25).length 2] 25 (0, 0))] :: [(b56, .cells #[.int .i64 a0.f0, .int .i64 a0.f1, .slice Aa0_f2 a0.f2.length ca0_f2, .slice Aa0_f3 a0.f3.length ca0_f3, .int .i64 a1.f0, .int .i64 a1.f1, .slice Aa1_f2 a1.f2.length ca1_f2, .slice Aa1_f3 a1.f3.length ca1_f3] 25 (0, 0))] :: [(b55, .cells #[.int .i64 7, .int .i64 0, .slice none 0 0, .slice (some ⟨b52, 0, none⟩) ([a0, a1] : List T25).length 2] 25 (0, 0))] :: [(b52, .cells #[.int .i64 a0.f0, .int .i64 a0.f1, .slice Aa0_f2 a0.f2.length ca0_f2, .slice Aa0_f3 a0.f3.length ca0_f3, .int .i64 a1.f0, .int .i64 a1.f1, .slice Aa1_f2 a1.f2.length ca1_f2, .slice Aa1_f3 a1.f3.length ca1_f3] 25 (0, 0))] :: [(b51, .cells #[.int .i64 9, .int .i64 0, .slice none 0 0, .slice (some ⟨b47, 0, none⟩) ([a1] : List T25).length 1] 25 (0, 0))] :: [(b50, .cells #[.int .i64 9, .int .i64 0, .slice none 0 0, .slice (some ⟨b44, 0, none⟩) ([a0] : List T25).length 1] 25 (0, 0))] :: [(b47, .cells #[.int .i64 a1.f0, .int .i64 a1.f1, .slice Aa1_f2 a1.f2.length ca1_f2, .slice Aa1_f3 a1.f3.length ca1_f3] 25 (0, 0))] :: [(b44, .cells #[.int .i64 a0.f0, .int .i64 a0.f1, .slice Aa0_f2 a0.f2.length ca0_f2, .slice Aa0_f3 a0.f3.length ca0_f3] 25 (0, 0))] :: [(b3, .cells #[.int .i64 a2.f0, .int .i64 a2.f1, .int .i64 a2.f2, .int .i64 a2.f3, .string a2.f4] 31 (0, 0))] :: Γ = Γ') (f := 16) (args := [.agg #[.int .i64 8, .int .i64 0, .slice none 0 0, .slice (some ⟨b56, 0, none⟩) ([a0, a1] : List T25).length 2]]) (by kernel_rfl) (fun W hI => (Calls.lendN (Φ := fun v' N => v' = .bool t150 ∧ N = []) (H := []) (i := 1) rfl hI (fun _ e l154 nl154 hI => by subst e; exact (((ask_May_calls (HT.mono l154) k (⟨8, 0, ([] : List ByteArray), ([a0, a1] : List T25)⟩ : T25) none 0 (Rd.nil _ _ _ _) (some ⟨b56, 0, none⟩) 2 (Ho58.rdN l154 nl154) t150 ht151 hI)).mono fun _ _ hr => by obtain ⟨_, _, _, rfl, hd, hI⟩ := hr; obtain ⟨rfl, rfl, rfl⟩ := hd; exact ⟨_, _, _, rfl, ⟨[], ⟨rfl, rfl⟩, rfl, rfl⟩, hI⟩))).mono fun _ _ hr => by obtain ⟨_, _, _, rfl, ⟨_, hd, rfl, rfl⟩, hI⟩ := hr; obtain ⟨rfl, rfl⟩ := hd; exact ⟨_, _, _, rfl, ⟨rfl, rfl, rfl⟩, hI⟩)) ?_
                  rintro _ _ _ ⟨rfl, rfl, rfl⟩
                  refine WL.pure 26 27 [5, 7, 8, 9, 10, 11, 12, 86, 89] (L' := [(5, .pointer (some ⟨b3, 0, none⟩)), (7, .bool t36), (8, .bool t40), (9, .pointer (some ⟨b50, 0, none⟩)), (10, .pointer (some ⟨b51, 0, none⟩)), (11, .pointer (some ⟨b55, 0, none⟩)), (12, .pointer (some ⟨b59, 0, none⟩)), (86, .bool false), (89, .bool t150)]) (by kernel_rfl) (by decide) ?_
                  refine WL.split 89 (b := t150) (by kernel_rfl) (fun hc => ?_) (fun hc => ?_)
                  · replace hc := hc
                    rw [if_pos hc] at h
                    have hc155 := hc
                    clear hc
                    refine WL.tell (op := .load 25 (.tmp 12)) (ty := 25) (d := some 90) (g := some (26, true)) (by kernel_rfl) (by kernel_rfl) (by kernel_rfl) (Tells.load_box (i := 0) (b := b59) (o := 0) (agg := true) (by rfl) ag25 (by kernel_rfl) (fun h => by cases h) (Nat.le_of_ble_eq_true rfl) (v := .agg #[.int .i64 8, .int .i64 0, .slice none 0 0, .slice (some ⟨b56, 0, none⟩) ([a0, a1] : List T25).length 2]) (by kernel_rfl)) ?_
                    refine WL.tell (op := .load 31 (.tmp 5)) (ty := 31) (d := some 91) (g := some (26, true)) (by kernel_rfl) (by kernel_rfl) (by kernel_rfl) (Tells.load_box (i := 8) (b := b3) (o := 0) (agg := true) (by rfl) ag31 (by kernel_rfl) (fun h => by cases h) (Nat.le_of_ble_eq_true rfl) (v := .agg #[.int .i64 a2.f0, .int .i64 a2.f1, .int .i64 a2.f2, .int .i64 a2.f3, .string a2.f4]) (by kernel_rfl)) ?_
                    rw [Option.bind_eq_some_iff] at h
                    obtain ⟨t156, ht157, h⟩ := h
                    refine WL.op (op := .call { callee := (.value (.func 12)), args := #[(.tmp 90), (.tmp 91)], argTypes := #[25, 31] }) (ty := 4) (d := some 92) (g := some (26, true)) (by kernel_rfl) (by kernel_rfl) (by kernel_rfl) (Does.call (Φ := fun v' G' Γ' => v' = .bool t156 ∧ G = G' ∧ [(b59, .cells #[.int .i64 8, .int .i64 0, .slice none 0 0, .slice (some ⟨b56, 0, none⟩) ([a0, a1] : List T25).length 2] 25 (0, 0))] :: [(b56, .cells #[.int .i64 a0.f0, .int .i64 a0.f1, .slice Aa0_f2 a0.f2.length ca0_f2, .slice Aa0_f3 a0.f3.length ca0_f3, .int .i64 a1.f0, .int .i64 a1.f1, .slice Aa1_f2 a1.f2.length ca1_f2, .slice Aa1_f3 a1.f3.length ca1_f3] 25 (0, 0))] :: [(b55, .cells #[.int .i64 7, .int .i64 0, .slice none 0 0, .slice (some ⟨b52, 0, none⟩) ([a0, a1] : List T25).length 2] 25 (0, 0))] :: [(b52, .cells #[.int .i64 a0.f0, .int .i64 a0.f1, .slice Aa0_f2 a0.f2.length ca0_f2, .slice Aa0_f3 a0.f3.length ca0_f3, .int .i64 a1.f0, .int .i64 a1.f1, .slice Aa1_f2 a1.f2.length ca1_f2, .slice Aa1_f3 a1.f3.length ca1_f3] 25 (0, 0))] :: [(b51, .cells #[.int .i64 9, .int .i64 0, .slice none 0 0, .slice (some ⟨b47, 0, none⟩) ([a1] : List T25).length 1] 25 (0, 0))] :: [(b50, .cells #[.int .i64 9, .int .i64 0, .slice none 0 0, .slice (some ⟨b44, 0, none⟩) ([a0] : List T25).length 1] 25 (0, 0))] :: [(b47, .cells #[.int .i64 a1.f0, .int .i64 a1.f1, .slice Aa1_f2 a1.f2.length ca1_f2, .slice Aa1_f3 a1.f3.length ca1_f3] 25 (0, 0))] :: [(b44, .cells #[.int .i64 a0.f0, .int .i64 a0.f1, .slice Aa0_f2 a0.f2.length ca0_f2, .slice Aa0_f3 a0.f3.length ca0_f3] 25 (0, 0))] :: [(b3, .cells #[.int .i64 a2.f0, .int .i64 a2.f1, .int .i64 a2.f2, .int .i64 a2.f3, .string a2.f4] 31 (0, 0))] :: Γ = Γ') (f := 12) (args := [.agg #[.int .i64 8, .int .i64 0, .slice none 0 0, .slice (some ⟨b56, 0, none⟩) ([a0, a1] : List T25).length 2], .agg #[.int .i64 a2.f0, .int .i64 a2.f1, .int .i64 a2.f2, .int .i64 a2.f3, .string a2.f4]]) (by kernel_rfl) (fun W hI => (Calls.lendN (Φ := fun v' N => v' = .bool t156 ∧ N = []) (H := []) (i := 1) rfl hI (fun _ e l160 nl160 hI => by subst e; exact (((deem_Holds_calls (HT.mono l160) k (⟨8, 0, ([] : List ByteArray), ([a0, a1] : List T25)⟩ : T25) a2 none 0 (Rd.nil _ _ _ _) (some ⟨b56, 0, none⟩) 2 (Ho58.rdN l160 nl160) t156 ht157 hI)).mono fun _ _ hr => by obtain ⟨_, _, _, rfl, hd, hI⟩ := hr; obtain ⟨rfl, rfl, rfl⟩ := hd; exact ⟨_, _, _, rfl, ⟨[], ⟨rfl, rfl⟩, rfl, rfl⟩, hI⟩))).mono fun _ _ hr => by obtain ⟨_, _, _, rfl, ⟨_, hd, rfl, rfl⟩, hI⟩ := hr; obtain ⟨rfl, rfl⟩ := hd; exact ⟨_, _, _, rfl, ⟨rfl, rfl, rfl⟩, hI⟩)) ?_
                    rintro _ _ _ ⟨rfl, rfl, rfl⟩
                    refine WL.pure 30 32 [5, 8, 9, 10, 11, 86, 89, 92, 94] (L' := [(5, .pointer (some ⟨b3, 0, none⟩)), (8, .bool t40), (9, .pointer (some ⟨b50, 0, none⟩)), (10, .pointer (some ⟨b51, 0, none⟩)), (11, .pointer (some ⟨b55, 0, none⟩)), (86, .bool false), (89, .bool true), (92, .bool t156), (94, .bool t36)]) (by kernel_rfl) (by decide) ?_
                    refine WL.split 94 (b := t36) (by kernel_rfl) (fun hc => ?_) (fun hc => ?_)
                    · replace hc := hc
                      rw [if_pos hc] at h
                      have hc161 := hc
                      clear hc
                      refine WL.rest 32 [5, 9, 10, 11, 99] (L' := [(5, .pointer (some ⟨b3, 0, none⟩)), (9, .pointer (some ⟨b50, 0, none⟩)), (10, .pointer (some ⟨b51, 0, none⟩)), (11, .pointer (some ⟨b55, 0, none⟩)), (99, .bool (!(t156 == true)))]) (by kernel_rfl) ?_
                      refine QP.dropAt 1 ?_
                      refine QP.dropAt 0 ?_
                      refine QP.pick [5, 9, 10, 11, 99] ?_
                      exact QP.meet ⟨_, Option.some.inj h, rfl, rfl, rfl⟩
                    · replace hc := (Bool.eq_false_iff.1 hc)
                      rw [if_neg hc] at h
                      have hc161 := hc
                      clear hc
                      refine WL.rest 32 [5, 9, 10, 11, 99] (L' := [(5, .pointer (some ⟨b3, 0, none⟩)), (9, .pointer (some ⟨b50, 0, none⟩)), (10, .pointer (some ⟨b51, 0, none⟩)), (11, .pointer (some ⟨b55, 0, none⟩)), (99, .bool (!(t156 == t40)))]) (by kernel_rfl) ?_
                      refine QP.dropAt 1 ?_
                      refine QP.dropAt 0 ?_
                      refine QP.pick [5, 9, 10, 11, 99] ?_
                      exact QP.meet ⟨_, Option.some.inj h, rfl, rfl, rfl⟩
                  · replace hc := (Bool.eq_false_iff.1 hc)
                    rw [if_neg hc] at h
                    have hc155 := hc
                    clear hc
                    refine WL.rest 27 [5, 9, 10, 11, 99] (L' := [(5, .pointer (some ⟨b3, 0, none⟩)), (9, .pointer (some ⟨b50, 0, none⟩)), (10, .pointer (some ⟨b51, 0, none⟩)), (11, .pointer (some ⟨b55, 0, none⟩)), (99, .bool false)]) (by kernel_rfl) ?_
                    refine QP.dropAt 1 ?_
                    refine QP.dropAt 0 ?_
                    refine QP.pick [5, 9, 10, 11, 99] ?_
                    exact QP.meet ⟨_, Option.some.inj h, rfl, rfl, rfl⟩
            · replace hc := (Bool.eq_false_iff.1 hc)
              rw [if_neg hc] at h
              have hc129 := hc
              clear hc
              refine WL.pure 13 24 [5, 7, 8, 9, 10, 11, 12, 86] (L' := [(5, .pointer (some ⟨b3, 0, none⟩)), (7, .bool t36), (8, .bool t40), (9, .pointer (some ⟨b50, 0, none⟩)), (10, .pointer (some ⟨b51, 0, none⟩)), (11, .pointer (some ⟨b55, 0, none⟩)), (12, .pointer (some ⟨b59, 0, none⟩)), (86, .bool false)]) (by kernel_rfl) (by decide) ?_
              refine WL.tell (op := .load 25 (.tmp 12)) (ty := 25) (d := some 87) (g := some (23, false)) (by kernel_rfl) (by kernel_rfl) (by kernel_rfl) (Tells.load_box (i := 0) (b := b59) (o := 0) (agg := true) (by rfl) ag25 (by kernel_rfl) (fun h => by cases h) (Nat.le_of_ble_eq_true rfl) (v := .agg #[.int .i64 8, .int .i64 0, .slice none 0 0, .slice (some ⟨b56, 0, none⟩) ([a0, a1] : List T25).length 2]) (by kernel_rfl)) ?_
              rw [Option.bind_eq_some_iff] at h
              obtain ⟨t162, ht163, h⟩ := h
              refine WL.op (op := .call { callee := (.value (.func 16)), args := #[(.tmp 87)], argTypes := #[25] }) (ty := 4) (d := some 88) (g := some (23, false)) (by kernel_rfl) (by kernel_rfl) (by kernel_rfl) (Does.call (Φ := fun v' G' Γ' => v' = .bool t162 ∧ G = G' ∧ [(b59, .cells #[.int .i64 8, .int .i64 0, .slice none 0 0, .slice (some ⟨b56, 0, none⟩) ([a0, a1] : List T25).length 2] 25 (0, 0))] :: [(b56, .cells #[.int .i64 a0.f0, .int .i64 a0.f1, .slice Aa0_f2 a0.f2.length ca0_f2, .slice Aa0_f3 a0.f3.length ca0_f3, .int .i64 a1.f0, .int .i64 a1.f1, .slice Aa1_f2 a1.f2.length ca1_f2, .slice Aa1_f3 a1.f3.length ca1_f3] 25 (0, 0))] :: [(b55, .cells #[.int .i64 7, .int .i64 0, .slice none 0 0, .slice (some ⟨b52, 0, none⟩) ([a0, a1] : List T25).length 2] 25 (0, 0))] :: [(b52, .cells #[.int .i64 a0.f0, .int .i64 a0.f1, .slice Aa0_f2 a0.f2.length ca0_f2, .slice Aa0_f3 a0.f3.length ca0_f3, .int .i64 a1.f0, .int .i64 a1.f1, .slice Aa1_f2 a1.f2.length ca1_f2, .slice Aa1_f3 a1.f3.length ca1_f3] 25 (0, 0))] :: [(b51, .cells #[.int .i64 9, .int .i64 0, .slice none 0 0, .slice (some ⟨b47, 0, none⟩) ([a1] : List T25).length 1] 25 (0, 0))] :: [(b50, .cells #[.int .i64 9, .int .i64 0, .slice none 0 0, .slice (some ⟨b44, 0, none⟩) ([a0] : List T25).length 1] 25 (0, 0))] :: [(b47, .cells #[.int .i64 a1.f0, .int .i64 a1.f1, .slice Aa1_f2 a1.f2.length ca1_f2, .slice Aa1_f3 a1.f3.length ca1_f3] 25 (0, 0))] :: [(b44, .cells #[.int .i64 a0.f0, .int .i64 a0.f1, .slice Aa0_f2 a0.f2.length ca0_f2, .slice Aa0_f3 a0.f3.length ca0_f3] 25 (0, 0))] :: [(b3, .cells #[.int .i64 a2.f0, .int .i64 a2.f1, .int .i64 a2.f2, .int .i64 a2.f3, .string a2.f4] 31 (0, 0))] :: Γ = Γ') (f := 16) (args := [.agg #[.int .i64 8, .int .i64 0, .slice none 0 0, .slice (some ⟨b56, 0, none⟩) ([a0, a1] : List T25).length 2]]) (by kernel_rfl) (fun W hI => (Calls.lendN (Φ := fun v' N => v' = .bool t162 ∧ N = []) (H := []) (i := 1) rfl hI (fun _ e l166 nl166 hI => by subst e; exact (((ask_May_calls (HT.mono l166) k (⟨8, 0, ([] : List ByteArray), ([a0, a1] : List T25)⟩ : T25) none 0 (Rd.nil _ _ _ _) (some ⟨b56, 0, none⟩) 2 (Ho58.rdN l166 nl166) t162 ht163 hI)).mono fun _ _ hr => by obtain ⟨_, _, _, rfl, hd, hI⟩ := hr; obtain ⟨rfl, rfl, rfl⟩ := hd; exact ⟨_, _, _, rfl, ⟨[], ⟨rfl, rfl⟩, rfl, rfl⟩, hI⟩))).mono fun _ _ hr => by obtain ⟨_, _, _, rfl, ⟨_, hd, rfl, rfl⟩, hI⟩ := hr; obtain ⟨rfl, rfl⟩ := hd; exact ⟨_, _, _, rfl, ⟨rfl, rfl, rfl⟩, hI⟩)) ?_
              rintro _ _ _ ⟨rfl, rfl, rfl⟩
              refine WL.pure 26 27 [5, 7, 8, 9, 10, 11, 12, 86, 89] (L' := [(5, .pointer (some ⟨b3, 0, none⟩)), (7, .bool t36), (8, .bool t40), (9, .pointer (some ⟨b50, 0, none⟩)), (10, .pointer (some ⟨b51, 0, none⟩)), (11, .pointer (some ⟨b55, 0, none⟩)), (12, .pointer (some ⟨b59, 0, none⟩)), (86, .bool false), (89, .bool t162)]) (by kernel_rfl) (by decide) ?_
              refine WL.split 89 (b := t162) (by kernel_rfl) (fun hc => ?_) (fun hc => ?_)
              · replace hc := hc
                rw [if_pos hc] at h
                have hc167 := hc
                clear hc
                refine WL.tell (op := .load 25 (.tmp 12)) (ty := 25) (d := some 90) (g := some (26, true)) (by kernel_rfl) (by kernel_rfl) (by kernel_rfl) (Tells.load_box (i := 0) (b := b59) (o := 0) (agg := true) (by rfl) ag25 (by kernel_rfl) (fun h => by cases h) (Nat.le_of_ble_eq_true rfl) (v := .agg #[.int .i64 8, .int .i64 0, .slice none 0 0, .slice (some ⟨b56, 0, none⟩) ([a0, a1] : List T25).length 2]) (by kernel_rfl)) ?_
                refine WL.tell (op := .load 31 (.tmp 5)) (ty := 31) (d := some 91) (g := some (26, true)) (by kernel_rfl) (by kernel_rfl) (by kernel_rfl) (Tells.load_box (i := 8) (b := b3) (o := 0) (agg := true) (by rfl) ag31 (by kernel_rfl) (fun h => by cases h) (Nat.le_of_ble_eq_true rfl) (v := .agg #[.int .i64 a2.f0, .int .i64 a2.f1, .int .i64 a2.f2, .int .i64 a2.f3, .string a2.f4]) (by kernel_rfl)) ?_
                rw [Option.bind_eq_some_iff] at h
                obtain ⟨t168, ht169, h⟩ := h
                refine WL.op (op := .call { callee := (.value (.func 12)), args := #[(.tmp 90), (.tmp 91)], argTypes := #[25, 31] }) (ty := 4) (d := some 92) (g := some (26, true)) (by kernel_rfl) (by kernel_rfl) (by kernel_rfl) (Does.call (Φ := fun v' G' Γ' => v' = .bool t168 ∧ G = G' ∧ [(b59, .cells #[.int .i64 8, .int .i64 0, .slice none 0 0, .slice (some ⟨b56, 0, none⟩) ([a0, a1] : List T25).length 2] 25 (0, 0))] :: [(b56, .cells #[.int .i64 a0.f0, .int .i64 a0.f1, .slice Aa0_f2 a0.f2.length ca0_f2, .slice Aa0_f3 a0.f3.length ca0_f3, .int .i64 a1.f0, .int .i64 a1.f1, .slice Aa1_f2 a1.f2.length ca1_f2, .slice Aa1_f3 a1.f3.length ca1_f3] 25 (0, 0))] :: [(b55, .cells #[.int .i64 7, .int .i64 0, .slice none 0 0, .slice (some ⟨b52, 0, none⟩) ([a0, a1] : List T25).length 2] 25 (0, 0))] :: [(b52, .cells #[.int .i64 a0.f0, .int .i64 a0.f1, .slice Aa0_f2 a0.f2.length ca0_f2, .slice Aa0_f3 a0.f3.length ca0_f3, .int .i64 a1.f0, .int .i64 a1.f1, .slice Aa1_f2 a1.f2.length ca1_f2, .slice Aa1_f3 a1.f3.length ca1_f3] 25 (0, 0))] :: [(b51, .cells #[.int .i64 9, .int .i64 0, .slice none 0 0, .slice (some ⟨b47, 0, none⟩) ([a1] : List T25).length 1] 25 (0, 0))] :: [(b50, .cells #[.int .i64 9, .int .i64 0, .slice none 0 0, .slice (some ⟨b44, 0, none⟩) ([a0] : List T25).length 1] 25 (0, 0))] :: [(b47, .cells #[.int .i64 a1.f0, .int .i64 a1.f1, .slice Aa1_f2 a1.f2.length ca1_f2, .slice Aa1_f3 a1.f3.length ca1_f3] 25 (0, 0))] :: [(b44, .cells #[.int .i64 a0.f0, .int .i64 a0.f1, .slice Aa0_f2 a0.f2.length ca0_f2, .slice Aa0_f3 a0.f3.length ca0_f3] 25 (0, 0))] :: [(b3, .cells #[.int .i64 a2.f0, .int .i64 a2.f1, .int .i64 a2.f2, .int .i64 a2.f3, .string a2.f4] 31 (0, 0))] :: Γ = Γ') (f := 12) (args := [.agg #[.int .i64 8, .int .i64 0, .slice none 0 0, .slice (some ⟨b56, 0, none⟩) ([a0, a1] : List T25).length 2], .agg #[.int .i64 a2.f0, .int .i64 a2.f1, .int .i64 a2.f2, .int .i64 a2.f3, .string a2.f4]]) (by kernel_rfl) (fun W hI => (Calls.lendN (Φ := fun v' N => v' = .bool t168 ∧ N = []) (H := []) (i := 1) rfl hI (fun _ e l172 nl172 hI => by subst e; exact (((deem_Holds_calls (HT.mono l172) k (⟨8, 0, ([] : List ByteArray), ([a0, a1] : List T25)⟩ : T25) a2 none 0 (Rd.nil _ _ _ _) (some ⟨b56, 0, none⟩) 2 (Ho58.rdN l172 nl172) t168 ht169 hI)).mono fun _ _ hr => by obtain ⟨_, _, _, rfl, hd, hI⟩ := hr; obtain ⟨rfl, rfl, rfl⟩ := hd; exact ⟨_, _, _, rfl, ⟨[], ⟨rfl, rfl⟩, rfl, rfl⟩, hI⟩))).mono fun _ _ hr => by obtain ⟨_, _, _, rfl, ⟨_, hd, rfl, rfl⟩, hI⟩ := hr; obtain ⟨rfl, rfl⟩ := hd; exact ⟨_, _, _, rfl, ⟨rfl, rfl, rfl⟩, hI⟩)) ?_
                rintro _ _ _ ⟨rfl, rfl, rfl⟩
                refine WL.pure 30 32 [5, 8, 9, 10, 11, 86, 89, 92, 94] (L' := [(5, .pointer (some ⟨b3, 0, none⟩)), (8, .bool t40), (9, .pointer (some ⟨b50, 0, none⟩)), (10, .pointer (some ⟨b51, 0, none⟩)), (11, .pointer (some ⟨b55, 0, none⟩)), (86, .bool false), (89, .bool true), (92, .bool t168), (94, .bool t36)]) (by kernel_rfl) (by decide) ?_
                refine WL.split 94 (b := t36) (by kernel_rfl) (fun hc => ?_) (fun hc => ?_)
                · replace hc := hc
                  rw [if_pos hc] at h
                  have hc173 := hc
                  clear hc
                  refine WL.rest 32 [5, 9, 10, 11, 99] (L' := [(5, .pointer (some ⟨b3, 0, none⟩)), (9, .pointer (some ⟨b50, 0, none⟩)), (10, .pointer (some ⟨b51, 0, none⟩)), (11, .pointer (some ⟨b55, 0, none⟩)), (99, .bool (!(t168 == true)))]) (by kernel_rfl) ?_
                  refine QP.dropAt 1 ?_
                  refine QP.dropAt 0 ?_
                  refine QP.pick [5, 9, 10, 11, 99] ?_
                  exact QP.meet ⟨_, Option.some.inj h, rfl, rfl, rfl⟩
                · replace hc := (Bool.eq_false_iff.1 hc)
                  rw [if_neg hc] at h
                  have hc173 := hc
                  clear hc
                  refine WL.rest 32 [5, 9, 10, 11, 99] (L' := [(5, .pointer (some ⟨b3, 0, none⟩)), (9, .pointer (some ⟨b50, 0, none⟩)), (10, .pointer (some ⟨b51, 0, none⟩)), (11, .pointer (some ⟨b55, 0, none⟩)), (99, .bool (!(t168 == t40)))]) (by kernel_rfl) ?_
                  refine QP.dropAt 1 ?_
                  refine QP.dropAt 0 ?_
                  refine QP.pick [5, 9, 10, 11, 99] ?_
                  exact QP.meet ⟨_, Option.some.inj h, rfl, rfl, rfl⟩
              · replace hc := (Bool.eq_false_iff.1 hc)
                rw [if_neg hc] at h
                have hc167 := hc
                clear hc
                refine WL.rest 27 [5, 9, 10, 11, 99] (L' := [(5, .pointer (some ⟨b3, 0, none⟩)), (9, .pointer (some ⟨b50, 0, none⟩)), (10, .pointer (some ⟨b51, 0, none⟩)), (11, .pointer (some ⟨b55, 0, none⟩)), (99, .bool false)]) (by kernel_rfl) ?_
                refine QP.dropAt 1 ?_
                refine QP.dropAt 0 ?_
                refine QP.pick [5, 9, 10, 11, 99] ?_
                exact QP.meet ⟨_, Option.some.inj h, rfl, rfl, rfl⟩
        · rintro _ _ _ ⟨s60, rfl, rfl, rfl, rfl⟩
          clear h
          replace h := hk61
          refine WP.cond (b := s60) (by kernel_rfl) (fun hc => ?_) (fun hc => ?_)
          · replace hc := hc
            rw [if_pos hc] at h
            have hc174 := hc
            clear hc
            refine WP.seqP [6] (L' := [(6, .bool false)]) (by kernel_rfl) ?_
            refine WP.dropAt 6 ?_
            refine WP.dropAt 5 ?_
            refine WP.dropAt 4 ?_
            refine WP.dropAt 3 ?_
            refine WP.dropAt 2 ?_
            refine WP.dropAt 1 ?_
            refine WP.dropAt 0 ?_
            refine WP.ret ?_
            refine QP.thenR ?_
            obtain rfl := Option.some.inj h
            exact QP.returned [6] [.bool false] _ (by kernel_rfl) (by kernel_rfl) (by kernel_rfl) (fun W hI => ⟨_, _, _, rfl, ⟨rfl, rfl, rfl⟩, hI⟩)
          · replace hc := (Bool.eq_false_iff.1 hc)
            rw [if_neg hc] at h
            have hc174 := hc
            clear hc
            refine WP.skip ?_
            refine QP.next ?_
            refine WP.pick [5, 9, 10, 11] ?_
            refine WP.freezeN (i := 1) rfl (fun G175 hG176 hle177 nd178 => ?_)
            have Hz179 := Ho54.rdN (by rw [← hG176]; exact hle177) nd178
            rw [← hG176] at Hz179
            have Hm180 := (show Ow k25 G (some ⟨b47, 0, none⟩) 1 ([a1] : List T25) [(b47, .cells #[.int .i64 a1.f0, .int .i64 a1.f1, .slice Aa1_f2 a1.f2.length ca1_f2, .slice Aa1_f3 a1.f3.length ca1_f3] 25 (0, 0))] from Ow.lit (kd := k25) (G := G) (b := b47) (T := 25) (xs := ([a1] : List T25)) (cs := [.int .i64 a1.f0, .int .i64 a1.f1, .slice Aa1_f2 a1.f2.length ca1_f2, .slice Aa1_f3 a1.f3.length ca1_f3]) (.cons (x := a1) (cs := [.int .i64 a1.f0, .int .i64 a1.f1, .slice Aa1_f2 a1.f2.length ca1_f2, .slice Aa1_f3 a1.f3.length ca1_f3]) (k25_in ⟨[.int .i64 a1.f0], _, rfl, rfl, ⟨[.int .i64 a1.f1], _, rfl, rfl, ⟨[.slice Aa1_f2 a1.f2.length ca1_f2], _, rfl, ⟨Aa1_f2, ca1_f2, rfl, Ha1_f2⟩, ⟨Aa1_f3, ca1_f3, rfl, Ha1_f3⟩⟩⟩⟩) .nil)).mono hle177
            have Hm181 := (show Ow k25 G (some ⟨b44, 0, none⟩) 1 ([a0] : List T25) [(b44, .cells #[.int .i64 a0.f0, .int .i64 a0.f1, .slice Aa0_f2 a0.f2.length ca0_f2, .slice Aa0_f3 a0.f3.length ca0_f3] 25 (0, 0))] from Ow.lit (kd := k25) (G := G) (b := b44) (T := 25) (xs := ([a0] : List T25)) (cs := [.int .i64 a0.f0, .int .i64 a0.f1, .slice Aa0_f2 a0.f2.length ca0_f2, .slice Aa0_f3 a0.f3.length ca0_f3]) (.cons (x := a0) (cs := [.int .i64 a0.f0, .int .i64 a0.f1, .slice Aa0_f2 a0.f2.length ca0_f2, .slice Aa0_f3 a0.f3.length ca0_f3]) (k25_in ⟨[.int .i64 a0.f0], _, rfl, rfl, ⟨[.int .i64 a0.f1], _, rfl, rfl, ⟨[.slice Aa0_f2 a0.f2.length ca0_f2], _, rfl, ⟨Aa0_f2, ca0_f2, rfl, Ha0_f2⟩, ⟨Aa0_f3, ca0_f3, rfl, Ha0_f3⟩⟩⟩⟩) .nil)).mono hle177
            refine WP.freezeN (i := 5) rfl (fun G182 hG183 hle184 nd185 => ?_)
            have Hz186 := Hm181.rdN (by rw [← hG183]; exact hle184) nd185
            rw [← hG183] at Hz186
            have Hm187 := Hz179.mono hle184
            have Hm188 := Hm180.mono hle184
            refine WP.freezeN (i := 4) rfl (fun G189 hG190 hle191 nd192 => ?_)
            have Hz193 := Hm188.rdN (by rw [← hG190]; exact hle191) nd192
            rw [← hG190] at Hz193
            have Hm194 := Hm187.mono hle191
            have Hm195 := Hz186.mono hle191
            refine WP.seq ?_
            refine WP.any (N := 11) (S := [⟨some 100, [11], []⟩, ⟨some 101, [100], [0]⟩, ⟨some 102, [101], [1]⟩, ⟨some 103, [9], []⟩, ⟨some 104, [10], []⟩, ⟨some 105, [103, 104], [3, 4]⟩, ⟨some 106, [105], [5]⟩, ⟨some 13, [], []⟩, ⟨some 14, [], []⟩, ⟨none, [13, 102], [0, 1, 2, 7, 8]⟩, ⟨none, [14, 106], [0, 1, 2, 3, 4, 5, 6, 7, 8, 9]⟩]) (kw := 11) (G0 := G189) (Γ0 := [[(b55, .cells #[.int .i64 7, .int .i64 0, .slice none 0 0, .slice (some ⟨b52, 0, none⟩) ([a0, a1] : List T25).length 2] 25 (0, 0))], [(b51, .cells #[.int .i64 9, .int .i64 0, .slice none 0 0, .slice (some ⟨b47, 0, none⟩) ([a1] : List T25).length 1] 25 (0, 0))], [(b50, .cells #[.int .i64 9, .int .i64 0, .slice none 0 0, .slice (some ⟨b44, 0, none⟩) ([a0] : List T25).length 1] 25 (0, 0))]]) mo (by kernel_rfl) (fun hS => ?_)
            refine WA.junc4 1 1023 (fun b202 b203 b199 b196 => [(5, .pointer (some ⟨b3, 0, none⟩)), (13, .pointer (some ⟨b202, 0, none⟩)), (14, .pointer (some ⟨b203, 0, none⟩)), (106, .agg #[.int .i64 8, .int .i64 0, .slice none 0 0, .slice (some ⟨b199, 0, none⟩) ([(⟨9, 0, ([] : List ByteArray), ([a0] : List T25)⟩ : T25), (⟨9, 0, ([] : List ByteArray), ([a1] : List T25)⟩ : T25)] : List T25).length 2])]) (fun b202 b203 b199 b196 => [(b203, .cells #[.int .i64 0, .int .i64 0, .slice none 0 0, .slice none 0 0] 25 (0, 0))] :: [(b202, .cells #[.int .i64 9, .int .i64 0, .slice none 0 0, .slice (some ⟨b196, 0, none⟩) ([(⟨7, 0, ([] : List ByteArray), ([a0, a1] : List T25)⟩ : T25)] : List T25).length 1] 25 (0, 0))] :: [(b199, .cells #[.int .i64 9, .int .i64 0, .slice none 0 0, .slice (some ⟨b44, 0, none⟩) ([a0] : List T25).length 1, .int .i64 9, .int .i64 0, .slice none 0 0, .slice (some ⟨b47, 0, none⟩) ([a1] : List T25).length 1] 25 (0, 0))] :: [(b196, .cells #[.int .i64 7, .int .i64 0, .slice none 0 0, .slice (some ⟨b52, 0, none⟩) ([a0, a1] : List T25).length 2] 25 (0, 0))] :: [(b55, .cells #[.int .i64 7, .int .i64 0, .slice none 0 0, .slice (some ⟨b52, 0, none⟩) ([a0, a1] : List T25).length 2] 25 (0, 0))] :: [] :: [(b51, .cells #[.int .i64 9, .int .i64 0, .slice none 0 0, .slice (some ⟨b47, 0, none⟩) ([a1] : List T25).length 1] 25 (0, 0))] :: [(b50, .cells #[.int .i64 9, .int .i64 0, .slice none 0 0, .slice (some ⟨b44, 0, none⟩) ([a0] : List T25).length 1] 25 (0, 0))] :: [] :: [] :: [(b3, .cells #[.int .i64 a2.f0, .int .i64 a2.f1, .int .i64 a2.f2, .int .i64 a2.f3, .string a2.f4] 31 (0, 0))] :: Γ) (fun b202 b203 b199 b196 => ?_) (fun J1023 => ?_)
            · refine WA.op (i := 10) (m := 0) (b' := 2047) (by kernel_rfl) hS (by kernel_rfl) (op := .store 25 (.tmp 14) (.tmp 106)) (ty := 0) (d := none) (g := none) (by kernel_rfl) (by kernel_rfl) (by kernel_rfl) (Does.store_box (i := 0) (b := b203) (o := 0) (v := .agg #[.int .i64 8, .int .i64 0, .slice none 0 0, .slice (some ⟨b199, 0, none⟩) ([(⟨9, 0, ([] : List ByteArray), ([a0] : List T25)⟩ : T25), (⟨9, 0, ([] : List ByteArray), ([a1] : List T25)⟩ : T25)] : List T25).length 2]) (by rfl) sz25 (by kernel_rfl) (by kernel_rfl) (by kernel_rfl) (Free.zero _) (Nat.le_of_ble_eq_true rfl) (cells' := #[.int .i64 8, .int .i64 0, .slice none 0 0, .slice (some ⟨b199, 0, none⟩) ([(⟨9, 0, ([] : List ByteArray), ([a0] : List T25)⟩ : T25), (⟨9, 0, ([] : List ByteArray), ([a1] : List T25)⟩ : T25)] : List T25).length 2]) (by kernel_rfl)) ?_
              rintro _ _ _ ⟨rfl, rfl, rfl⟩
              refine ⟨_, _, Under.refl, (Under.subl (by repeat first | exact List.nil_sublist _ | apply List.Sublist.cons_cons | apply List.Sublist.cons)), ?_⟩
              refine WA.done hS (by kernel_rfl) ?_
              refine QP.pick [5, 13, 14] ?_
              refine QP.next ?_
              refine WP.dropAt 9 ?_
              refine WP.dropAt 8 ?_
              refine WP.dropAt 7 ?_
              refine WP.dropAt 6 ?_
              refine WP.dropAt 5 ?_
              refine WP.dropAt 4 ?_
              rw [Option.bind_eq_some_iff] at h
              obtain ⟨os204, h, hk205⟩ := h
              refine WP.cut (fun L' G' Γ' => ∃ s204 : Bool, s204 = os204 ∧ L' = [(6, .bool s204)] ∧ G189 = G' ∧ Γ = Γ') ?_ ?_
              · clear hk205
                skip
                refine WP.any (N := 21) (S := [⟨some 107, [13], []⟩, ⟨some 108, [107], [0]⟩, ⟨some 109, [108], [1]⟩, ⟨some 110, [109], [1, 2]⟩, ⟨some 111, [14, 110], [3]⟩, ⟨some 112, [110, 111], [3, 4]⟩, ⟨some 113, [110, 112], [3, 5]⟩, ⟨some 114, [110, 113], [3, 6]⟩, ⟨some 115, [114], [5, 7]⟩, ⟨some 116, [13, 115], [8]⟩, ⟨some 117, [5, 115], [8]⟩, ⟨some 118, [115, 116, 117], [8, 9, 10]⟩, ⟨some 119, [14, 115], [8]⟩, ⟨some 120, [5, 115], [8]⟩, ⟨some 121, [115, 119, 120], [8, 11, 12, 13]⟩, ⟨some 122, [115, 118, 121], [8, 11, 14]⟩, ⟨some 123, [115, 122], [8, 15]⟩, ⟨some 124, [123], [14, 16]⟩, ⟨some 125, [124], [17]⟩, ⟨some 126, [124, 125], [17, 18]⟩, ⟨some 6, [126], [0, 1, 2, 3, 4, 5, 6, 7, 8, 9, 10, 11, 12, 13, 14, 15, 16, 17, 18, 19]⟩]) (kw := 21) (G0 := G189) (Γ0 := [(b203, .cells #[.int .i64 8, .int .i64 0, .slice none 0 0, .slice (some ⟨b199, 0, none⟩) ([(⟨9, 0, ([] : List ByteArray), ([a0] : List T25)⟩ : T25), (⟨9, 0, ([] : List ByteArray), ([a1] : List T25)⟩ : T25)] : List T25).length 2] 25 (0, 0))] :: [(b202, .cells #[.int .i64 9, .int .i64 0, .slice none 0 0, .slice (some ⟨b196, 0, none⟩) ([(⟨7, 0, ([] : List ByteArray), ([a0, a1] : List T25)⟩ : T25)] : List T25).length 1] 25 (0, 0))] :: [(b199, .cells #[.int .i64 9, .int .i64 0, .slice none 0 0, .slice (some ⟨b44, 0, none⟩) ([a0] : List T25).length 1, .int .i64 9, .int .i64 0, .slice none 0 0, .slice (some ⟨b47, 0, none⟩) ([a1] : List T25).length 1] 25 (0, 0))] :: [(b196, .cells #[.int .i64 7, .int .i64 0, .slice none 0 0, .slice (some ⟨b52, 0, none⟩) ([a0, a1] : List T25).length 2] 25 (0, 0))] :: [(b3, .cells #[.int .i64 a2.f0, .int .i64 a2.f1, .int .i64 a2.f2, .int .i64 a2.f3, .string a2.f4] 31 (0, 0))] :: Γ) mo (by kernel_rfl) (fun hS => ?_)
                refine WA.tellD [] (i := 0) (m := 20) (b' := 1) (by kernel_rfl) (NoPanic.then (NoPanic.body)) Under.refl hS (by kernel_rfl) (op := .load 25 (.tmp 13)) (ty := 25) (d := some 107) (g := none) (by kernel_rfl) (by kernel_rfl) (by kernel_rfl) (Tells.load_box (i := 1) (b := b202) (o := 0) (agg := true) (by rfl) ag25 (by kernel_rfl) (fun h => by cases h) (Nat.le_of_ble_eq_true rfl) (v := .agg #[.int .i64 9, .int .i64 0, .slice none 0 0, .slice (some ⟨b196, 0, none⟩) ([(⟨7, 0, ([] : List ByteArray), ([a0, a1] : List T25)⟩ : T25)] : List T25).length 1]) (by kernel_rfl)) ?_
                rw [Option.bind_eq_some_iff] at h
                obtain ⟨t206, ht207, h⟩ := h
                refine WA.op (i := 1) (m := 19) (b' := 3) (by kernel_rfl) hS (by kernel_rfl) (op := .call { callee := (.value (.func 16)), args := #[(.tmp 107)], argTypes := #[25] }) (ty := 4) (d := some 108) (g := none) (by kernel_rfl) (by kernel_rfl) (by kernel_rfl) (Does.call (Φ := fun v' G' Γ' => v' = .bool t206 ∧ G189 = G' ∧ [(b203, .cells #[.int .i64 8, .int .i64 0, .slice none 0 0, .slice (some ⟨b199, 0, none⟩) ([(⟨9, 0, ([] : List ByteArray), ([a0] : List T25)⟩ : T25), (⟨9, 0, ([] : List ByteArray), ([a1] : List T25)⟩ : T25)] : List T25).length 2] 25 (0, 0))] :: [(b202, .cells #[.int .i64 9, .int .i64 0, .slice none 0 0, .slice (some ⟨b196, 0, none⟩) ([(⟨7, 0, ([] : List ByteArray), ([a0, a1] : List T25)⟩ : T25)] : List T25).length 1] 25 (0, 0))] :: [(b199, .cells #[.int .i64 9, .int .i64 0, .slice none 0 0, .slice (some ⟨b44, 0, none⟩) ([a0] : List T25).length 1, .int .i64 9, .int .i64 0, .slice none 0 0, .slice (some ⟨b47, 0, none⟩) ([a1] : List T25).length 1] 25 (0, 0))] :: [(b196, .cells #[.int .i64 7, .int .i64 0, .slice none 0 0, .slice (some ⟨b52, 0, none⟩) ([a0, a1] : List T25).length 2] 25 (0, 0))] :: [(b3, .cells #[.int .i64 a2.f0, .int .i64 a2.f1, .int .i64 a2.f2, .int .i64 a2.f3, .string a2.f4] 31 (0, 0))] :: Γ = Γ') (f := 16) (args := [.agg #[.int .i64 9, .int .i64 0, .slice none 0 0, .slice (some ⟨b196, 0, none⟩) ([(⟨7, 0, ([] : List ByteArray), ([a0, a1] : List T25)⟩ : T25)] : List T25).length 1]]) (by kernel_rfl) (fun W hI => (Calls.lendN (Φ := fun v' N => v' = .bool t206 ∧ N = []) (H := []) (i := 3) rfl hI (fun _ e l210 nl210 hI => by subst e; exact (((ask_May_calls ((HT.mono (GMap.le_trans (GMap.le_trans hle177 hle184) hle191)).mono l210) k (⟨9, 0, ([] : List ByteArray), ([(⟨7, 0, ([] : List ByteArray), ([a0, a1] : List T25)⟩ : T25)] : List T25)⟩ : T25) none 0 (Rd.nil _ _ _ _) (some ⟨b196, 0, none⟩) 1 ((show Ow k25 G189 (some ⟨b196, 0, none⟩) 1 ([(⟨7, 0, ([] : List ByteArray), ([a0, a1] : List T25)⟩ : T25)] : List T25) [(b196, .cells #[.int .i64 7, .int .i64 0, .slice none 0 0, .slice (some ⟨b52, 0, none⟩) ([a0, a1] : List T25).length 2] 25 (0, 0))] from Ow.lit (kd := k25) (G := G189) (b := b196) (T := 25) (xs := ([(⟨7, 0, ([] : List ByteArray), ([a0, a1] : List T25)⟩ : T25)] : List T25)) (cs := [.int .i64 7, .int .i64 0, .slice none 0 0, .slice (some ⟨b52, 0, none⟩) ([a0, a1] : List T25).length 2]) (.cons (x := (⟨7, 0, ([] : List ByteArray), ([a0, a1] : List T25)⟩ : T25)) (cs := [.int .i64 7, .int .i64 0, .slice none 0 0, .slice (some ⟨b52, 0, none⟩) ([a0, a1] : List T25).length 2]) (k25_in ⟨[.int .i64 7], _, rfl, rfl, ⟨[.int .i64 0], _, rfl, rfl, ⟨[.slice none 0 0], _, rfl, ⟨none, 0, rfl, (Rd.nil _ _ _ _)⟩, ⟨(some ⟨b52, 0, none⟩), 2, rfl, Hm194⟩⟩⟩⟩) .nil)).rdN l210 nl210) t206 ht207 hI)).mono fun _ _ hr => by obtain ⟨_, _, _, rfl, hd, hI⟩ := hr; obtain ⟨rfl, rfl, rfl⟩ := hd; exact ⟨_, _, _, rfl, ⟨[], ⟨rfl, rfl⟩, rfl, rfl⟩, hI⟩))).mono fun _ _ hr => by obtain ⟨_, _, _, rfl, ⟨_, hd, rfl, rfl⟩, hI⟩ := hr; obtain ⟨rfl, rfl⟩ := hd; exact ⟨_, _, _, rfl, ⟨rfl, rfl, rfl⟩, hI⟩)) ?_
                rintro _ _ _ ⟨rfl, rfl, rfl⟩
                refine ⟨_, _, Under.refl, Under.refl, ?_⟩
                refine WA.pure [2, 3] [5, 13, 14, 110] (m := 17) (b' := 15) (L' := [(5, .pointer (some ⟨b3, 0, none⟩)), (13, .pointer (some ⟨b202, 0, none⟩)), (14, .pointer (some ⟨b203, 0, none⟩)), (110, .bool (!t206))]) (by kernel_rfl) (NoPanic.then (NoPanic.body)) Under.refl hS (by kernel_rfl) ?_
                refine WA.split 110 (b := (!t206)) (by kernel_rfl) (fun hc => ?_) (fun hc => ?_)
                · replace hc := hc
                  rw [if_pos hc] at h
                  have hc211 := hc
                  clear hc
                  refine WA.pure [4, 5, 6, 7, 8, 9, 10, 11, 12, 13, 14, 15, 16, 17] [124] (m := 3) (b' := 262143) (L' := [(124, .bool true)]) (by kernel_rfl) (NoPanic.then (NoPanic.body)) Under.refl hS (by kernel_rfl) ?_
                  rw [Option.bind_eq_some_iff] at h
                  obtain ⟨t212, ht213, h⟩ := h
                  refine WA.op (i := 18) (m := 2) (b' := 524287) (by kernel_rfl) hS (by kernel_rfl) (op := .call { callee := (.value (.func 11)), args := #[], argTypes := #[] }) (ty := 4) (d := some 125) (g := some (17, true)) (by kernel_rfl) (by kernel_rfl) (by kernel_rfl) (Does.call (f := 11) (args := []) (by kernel_rfl) (fun W hI => (grapevinelaw15_awake_calls (HT.mono (GMap.le_trans (GMap.le_trans hle177 hle184) hle191)) k   t212 ht213 hI))) ?_
                  rintro _ _ _ ⟨rfl, rfl, rfl⟩
                  refine ⟨_, _, Under.refl, Under.refl, ?_⟩
                  refine WA.pure [19, 20] [6] (m := 0) (b' := 2097151) (L' := [(6, .bool t212)]) (by kernel_rfl) (NoPanic.then (NoPanic.body)) Under.refl hS (by kernel_rfl) ?_
                  refine WA.done hS (by kernel_rfl) ?_
                  refine QP.pick [6] ?_
                  refine QP.dropAt 4 ?_
                  refine QP.dropAt 3 ?_
                  refine QP.dropAt 2 ?_
                  refine QP.dropAt 1 ?_
                  refine QP.dropAt 0 ?_
                  refine QP.pick [6] ?_
                  exact QP.meet ⟨_, Option.some.inj h, rfl, rfl, rfl⟩
                · replace hc := (Bool.eq_false_iff.1 hc)
                  rw [if_neg hc] at h
                  have hc211 := hc
                  clear hc
                  refine WA.tellD [] (i := 4) (m := 16) (b' := 31) (by kernel_rfl) (NoPanic.then (NoPanic.body)) Under.refl hS (by kernel_rfl) (op := .load 25 (.tmp 14)) (ty := 25) (d := some 111) (g := some (3, false)) (by kernel_rfl) (by kernel_rfl) (by kernel_rfl) (Tells.load_box (i := 0) (b := b203) (o := 0) (agg := true) (by rfl) ag25 (by kernel_rfl) (fun h => by cases h) (Nat.le_of_ble_eq_true rfl) (v := .agg #[.int .i64 8, .int .i64 0, .slice none 0 0, .slice (some ⟨b199, 0, none⟩) ([(⟨9, 0, ([] : List ByteArray), ([a0] : List T25)⟩ : T25), (⟨9, 0, ([] : List ByteArray), ([a1] : List T25)⟩ : T25)] : List T25).length 2]) (by kernel_rfl)) ?_
                  rw [Option.bind_eq_some_iff] at h
                  obtain ⟨t216, ht217, h⟩ := h
                  refine WA.op (i := 5) (m := 15) (b' := 63) (by kernel_rfl) hS (by kernel_rfl) (op := .call { callee := (.value (.func 16)), args := #[(.tmp 111)], argTypes := #[25] }) (ty := 4) (d := some 112) (g := some (3, false)) (by kernel_rfl) (by kernel_rfl) (by kernel_rfl) (Does.call (Φ := fun v' G' Γ' => v' = .bool t216 ∧ G189 = G' ∧ [(b203, .cells #[.int .i64 8, .int .i64 0, .slice none 0 0, .slice (some ⟨b199, 0, none⟩) ([(⟨9, 0, ([] : List ByteArray), ([a0] : List T25)⟩ : T25), (⟨9, 0, ([] : List ByteArray), ([a1] : List T25)⟩ : T25)] : List T25).length 2] 25 (0, 0))] :: [(b202, .cells #[.int .i64 9, .int .i64 0, .slice none 0 0, .slice (some ⟨b196, 0, none⟩) ([(⟨7, 0, ([] : List ByteArray), ([a0, a1] : List T25)⟩ : T25)] : List T25).length 1] 25 (0, 0))] :: [(b199, .cells #[.int .i64 9, .int .i64 0, .slice none 0 0, .slice (some ⟨b44, 0, none⟩) ([a0] : List T25).length 1, .int .i64 9, .int .i64 0, .slice none 0 0, .slice (some ⟨b47, 0, none⟩) ([a1] : List T25).length 1] 25 (0, 0))] :: [(b196, .cells #[.int .i64 7, .int .i64 0, .slice none 0 0, .slice (some ⟨b52, 0, none⟩) ([a0, a1] : List T25).length 2] 25 (0, 0))] :: [(b3, .cells #[.int .i64 a2.f0, .int .i64 a2.f1, .int .i64 a2.f2, .int .i64 a2.f3, .string a2.f4] 31 (0, 0))] :: Γ = Γ') (f := 16) (args := [.agg #[.int .i64 8, .int .i64 0, .slice none 0 0, .slice (some ⟨b199, 0, none⟩) ([(⟨9, 0, ([] : List ByteArray), ([a0] : List T25)⟩ : T25), (⟨9, 0, ([] : List ByteArray), ([a1] : List T25)⟩ : T25)] : List T25).length 2]]) (by kernel_rfl) (fun W hI => (Calls.lendN (Φ := fun v' N => v' = .bool t216 ∧ N = []) (H := []) (i := 2) rfl hI (fun _ e l220 nl220 hI => by subst e; exact (((ask_May_calls ((HT.mono (GMap.le_trans (GMap.le_trans hle177 hle184) hle191)).mono l220) k (⟨8, 0, ([] : List ByteArray), ([(⟨9, 0, ([] : List ByteArray), ([a0] : List T25)⟩ : T25), (⟨9, 0, ([] : List ByteArray), ([a1] : List T25)⟩ : T25)] : List T25)⟩ : T25) none 0 (Rd.nil _ _ _ _) (some ⟨b199, 0, none⟩) 2 ((show Ow k25 G189 (some ⟨b199, 0, none⟩) 2 ([(⟨9, 0, ([] : List ByteArray), ([a0] : List T25)⟩ : T25), (⟨9, 0, ([] : List ByteArray), ([a1] : List T25)⟩ : T25)] : List T25) [(b199, .cells #[.int .i64 9, .int .i64 0, .slice none 0 0, .slice (some ⟨b44, 0, none⟩) ([a0] : List T25).length 1, .int .i64 9, .int .i64 0, .slice none 0 0, .slice (some ⟨b47, 0, none⟩) ([a1] : List T25).length 1] 25 (0, 0))] from Ow.lit (kd := k25) (G := G189) (b := b199) (T := 25) (xs := ([(⟨9, 0, ([] : List ByteArray), ([a0] : List T25)⟩ : T25), (⟨9, 0, ([] : List ByteArray), ([a1] : List T25)⟩ : T25)] : List T25)) (cs := [.int .i64 9, .int .i64 0, .slice none 0 0, .slice (some ⟨b44, 0, none⟩) ([a0] : List T25).length 1, .int .i64 9, .int .i64 0, .slice none 0 0, .slice (some ⟨b47, 0, none⟩) ([a1] : List T25).length 1]) (.cons (x := (⟨9, 0, ([] : List ByteArray), ([a0] : List T25)⟩ : T25)) (cs := [.int .i64 9, .int .i64 0, .slice none 0 0, .slice (some ⟨b44, 0, none⟩) ([a0] : List T25).length 1]) (k25_in ⟨[.int .i64 9], _, rfl, rfl, ⟨[.int .i64 0], _, rfl, rfl, ⟨[.slice none 0 0], _, rfl, ⟨none, 0, rfl, (Rd.nil _ _ _ _)⟩, ⟨(some ⟨b44, 0, none⟩), 1, rfl, Hm195⟩⟩⟩⟩) (.cons (x := (⟨9, 0, ([] : List ByteArray), ([a1] : List T25)⟩ : T25)) (cs := [.int .i64 9, .int .i64 0, .slice none 0 0, .slice (some ⟨b47, 0, none⟩) ([a1] : List T25).length 1]) (k25_in ⟨[.int .i64 9], _, rfl, rfl, ⟨[.int .i64 0], _, rfl, rfl, ⟨[.slice none 0 0], _, rfl, ⟨none, 0, rfl, (Rd.nil _ _ _ _)⟩, ⟨(some ⟨b47, 0, none⟩), 1, rfl, Hz193⟩⟩⟩⟩) .nil))).rdN l220 nl220) t216 ht217 hI)).mono fun _ _ hr => by obtain ⟨_, _, _, rfl, hd, hI⟩ := hr; obtain ⟨rfl, rfl, rfl⟩ := hd; exact ⟨_, _, _, rfl, ⟨[], ⟨rfl, rfl⟩, rfl, rfl⟩, hI⟩))).mono fun _ _ hr => by obtain ⟨_, _, _, rfl, ⟨_, hd, rfl, rfl⟩, hI⟩ := hr; obtain ⟨rfl, rfl⟩ := hd; exact ⟨_, _, _, rfl, ⟨rfl, rfl, rfl⟩, hI⟩)) ?_
                  rintro _ _ _ ⟨rfl, rfl, rfl⟩
                  refine ⟨_, _, Under.refl, Under.refl, ?_⟩
                  refine WA.pure [6, 7, 8] [5, 13, 14, 115] (m := 12) (b' := 511) (L' := [(5, .pointer (some ⟨b3, 0, none⟩)), (13, .pointer (some ⟨b202, 0, none⟩)), (14, .pointer (some ⟨b203, 0, none⟩)), (115, .bool (!t216))]) (by kernel_rfl) (NoPanic.then (NoPanic.body)) Under.refl hS (by kernel_rfl) ?_
                  refine WA.split 115 (b := (!t216)) (by kernel_rfl) (fun hc => ?_) (fun hc => ?_)
                  · replace hc := hc
                    rw [if_pos hc] at h
                    have hc221 := hc
                    clear hc
                    refine WA.pure [9, 10, 11, 12, 13, 14, 15, 16, 17] [124] (m := 3) (b' := 262143) (L' := [(124, .bool true)]) (by kernel_rfl) (NoPanic.then (NoPanic.body)) Under.refl hS (by kernel_rfl) ?_
                    rw [Option.bind_eq_some_iff] at h
                    obtain ⟨t222, ht223, h⟩ := h
                    refine WA.op (i := 18) (m := 2) (b' := 524287) (by kernel_rfl) hS (by kernel_rfl) (op := .call { callee := (.value (.func 11)), args := #[], argTypes := #[] }) (ty := 4) (d := some 125) (g := some (17, true)) (by kernel_rfl) (by kernel_rfl) (by kernel_rfl) (Does.call (f := 11) (args := []) (by kernel_rfl) (fun W hI => (grapevinelaw15_awake_calls (HT.mono (GMap.le_trans (GMap.le_trans hle177 hle184) hle191)) k   t222 ht223 hI))) ?_
                    rintro _ _ _ ⟨rfl, rfl, rfl⟩
                    refine ⟨_, _, Under.refl, Under.refl, ?_⟩
                    refine WA.pure [19, 20] [6] (m := 0) (b' := 2097151) (L' := [(6, .bool t222)]) (by kernel_rfl) (NoPanic.then (NoPanic.body)) Under.refl hS (by kernel_rfl) ?_
                    refine WA.done hS (by kernel_rfl) ?_
                    refine QP.pick [6] ?_
                    refine QP.dropAt 4 ?_
                    refine QP.dropAt 3 ?_
                    refine QP.dropAt 2 ?_
                    refine QP.dropAt 1 ?_
                    refine QP.dropAt 0 ?_
                    refine QP.pick [6] ?_
                    exact QP.meet ⟨_, Option.some.inj h, rfl, rfl, rfl⟩
                  · replace hc := (Bool.eq_false_iff.1 hc)
                    rw [if_neg hc] at h
                    have hc221 := hc
                    clear hc
                    refine WA.tellD [] (i := 9) (m := 11) (b' := 1023) (by kernel_rfl) (NoPanic.then (NoPanic.body)) Under.refl hS (by kernel_rfl) (op := .load 25 (.tmp 13)) (ty := 25) (d := some 116) (g := some (8, false)) (by kernel_rfl) (by kernel_rfl) (by kernel_rfl) (Tells.load_box (i := 1) (b := b202) (o := 0) (agg := true) (by rfl) ag25 (by kernel_rfl) (fun h => by cases h) (Nat.le_of_ble_eq_true rfl) (v := .agg #[.int .i64 9, .int .i64 0, .slice none 0 0, .slice (some ⟨b196, 0, none⟩) ([(⟨7, 0, ([] : List ByteArray), ([a0, a1] : List T25)⟩ : T25)] : List T25).length 1]) (by kernel_rfl)) ?_
                    refine WA.tellD [] (i := 10) (m := 10) (b' := 2047) (by kernel_rfl) (NoPanic.then (NoPanic.body)) Under.refl hS (by kernel_rfl) (op := .load 31 (.tmp 5)) (ty := 31) (d := some 117) (g := some (8, false)) (by kernel_rfl) (by kernel_rfl) (by kernel_rfl) (Tells.load_box (i := 4) (b := b3) (o := 0) (agg := true) (by rfl) ag31 (by kernel_rfl) (fun h => by cases h) (Nat.le_of_ble_eq_true rfl) (v := .agg #[.int .i64 a2.f0, .int .i64 a2.f1, .int .i64 a2.f2, .int .i64 a2.f3, .string a2.f4]) (by kernel_rfl)) ?_
                    refine WA.tellD [] (i := 12) (m := 9) (b' := 6143) (by kernel_rfl) (NoPanic.then (NoPanic.body)) Under.refl hS (by kernel_rfl) (op := .load 25 (.tmp 14)) (ty := 25) (d := some 119) (g := some (8, false)) (by kernel_rfl) (by kernel_rfl) (by kernel_rfl) (Tells.load_box (i := 0) (b := b203) (o := 0) (agg := true) (by rfl) ag25 (by kernel_rfl) (fun h => by cases h) (Nat.le_of_ble_eq_true rfl) (v := .agg #[.int .i64 8, .int .i64 0, .slice none 0 0, .slice (some ⟨b199, 0, none⟩) ([(⟨9, 0, ([] : List ByteArray), ([a0] : List T25)⟩ : T25), (⟨9, 0, ([] : List ByteArray), ([a1] : List T25)⟩ : T25)] : List T25).length 2]) (by kernel_rfl)) ?_
                    refine WA.tellD [] (i := 13) (m := 8) (b' := 14335) (by kernel_rfl) (NoPanic.then (NoPanic.body)) Under.refl hS (by kernel_rfl) (op := .load 31 (.tmp 5)) (ty := 31) (d := some 120) (g := some (8, false)) (by kernel_rfl) (by kernel_rfl) (by kernel_rfl) (Tells.load_box (i := 4) (b := b3) (o := 0) (agg := true) (by rfl) ag31 (by kernel_rfl) (fun h => by cases h) (Nat.le_of_ble_eq_true rfl) (v := .agg #[.int .i64 a2.f0, .int .i64 a2.f1, .int .i64 a2.f2, .int .i64 a2.f3, .string a2.f4]) (by kernel_rfl)) ?_
                    rw [Option.bind_eq_some_iff] at h
                    obtain ⟨t226, ht227, h⟩ := h
                    refine WA.op (i := 11) (m := 7) (b' := 16383) (by kernel_rfl) hS (by kernel_rfl) (op := .call { callee := (.value (.func 12)), args := #[(.tmp 116), (.tmp 117)], argTypes := #[25, 31] }) (ty := 4) (d := some 118) (g := some (8, false)) (by kernel_rfl) (by kernel_rfl) (by kernel_rfl) (Does.call (Φ := fun v' G' Γ' => v' = .bool t226 ∧ G189 = G' ∧ [(b203, .cells #[.int .i64 8, .int .i64 0, .slice none 0 0, .slice (some ⟨b199, 0, none⟩) ([(⟨9, 0, ([] : List ByteArray), ([a0] : List T25)⟩ : T25), (⟨9, 0, ([] : List ByteArray), ([a1] : List T25)⟩ : T25)] : List T25).length 2] 25 (0, 0))] :: [(b202, .cells #[.int .i64 9, .int .i64 0, .slice none 0 0, .slice (some ⟨b196, 0, none⟩) ([(⟨7, 0, ([] : List ByteArray), ([a0, a1] : List T25)⟩ : T25)] : List T25).length 1] 25 (0, 0))] :: [(b199, .cells #[.int .i64 9, .int .i64 0, .slice none 0 0, .slice (some ⟨b44, 0, none⟩) ([a0] : List T25).length 1, .int .i64 9, .int .i64 0, .slice none 0 0, .slice (some ⟨b47, 0, none⟩) ([a1] : List T25).length 1] 25 (0, 0))] :: [(b196, .cells #[.int .i64 7, .int .i64 0, .slice none 0 0, .slice (some ⟨b52, 0, none⟩) ([a0, a1] : List T25).length 2] 25 (0, 0))] :: [(b3, .cells #[.int .i64 a2.f0, .int .i64 a2.f1, .int .i64 a2.f2, .int .i64 a2.f3, .string a2.f4] 31 (0, 0))] :: Γ = Γ') (f := 12) (args := [.agg #[.int .i64 9, .int .i64 0, .slice none 0 0, .slice (some ⟨b196, 0, none⟩) ([(⟨7, 0, ([] : List ByteArray), ([a0, a1] : List T25)⟩ : T25)] : List T25).length 1], .agg #[.int .i64 a2.f0, .int .i64 a2.f1, .int .i64 a2.f2, .int .i64 a2.f3, .string a2.f4]]) (by kernel_rfl) (fun W hI => (Calls.lendN (Φ := fun v' N => v' = .bool t226 ∧ N = []) (H := []) (i := 3) rfl hI (fun _ e l230 nl230 hI => by subst e; exact (((deem_Holds_calls ((HT.mono (GMap.le_trans (GMap.le_trans hle177 hle184) hle191)).mono l230) k (⟨9, 0, ([] : List ByteArray), ([(⟨7, 0, ([] : List ByteArray), ([a0, a1] : List T25)⟩ : T25)] : List T25)⟩ : T25) a2 none 0 (Rd.nil _ _ _ _) (some ⟨b196, 0, none⟩) 1 ((show Ow k25 G189 (some ⟨b196, 0, none⟩) 1 ([(⟨7, 0, ([] : List ByteArray), ([a0, a1] : List T25)⟩ : T25)] : List T25) [(b196, .cells #[.int .i64 7, .int .i64 0, .slice none 0 0, .slice (some ⟨b52, 0, none⟩) ([a0, a1] : List T25).length 2] 25 (0, 0))] from Ow.lit (kd := k25) (G := G189) (b := b196) (T := 25) (xs := ([(⟨7, 0, ([] : List ByteArray), ([a0, a1] : List T25)⟩ : T25)] : List T25)) (cs := [.int .i64 7, .int .i64 0, .slice none 0 0, .slice (some ⟨b52, 0, none⟩) ([a0, a1] : List T25).length 2]) (.cons (x := (⟨7, 0, ([] : List ByteArray), ([a0, a1] : List T25)⟩ : T25)) (cs := [.int .i64 7, .int .i64 0, .slice none 0 0, .slice (some ⟨b52, 0, none⟩) ([a0, a1] : List T25).length 2]) (k25_in ⟨[.int .i64 7], _, rfl, rfl, ⟨[.int .i64 0], _, rfl, rfl, ⟨[.slice none 0 0], _, rfl, ⟨none, 0, rfl, (Rd.nil _ _ _ _)⟩, ⟨(some ⟨b52, 0, none⟩), 2, rfl, Hm194⟩⟩⟩⟩) .nil)).rdN l230 nl230) t226 ht227 hI)).mono fun _ _ hr => by obtain ⟨_, _, _, rfl, hd, hI⟩ := hr; obtain ⟨rfl, rfl, rfl⟩ := hd; exact ⟨_, _, _, rfl, ⟨[], ⟨rfl, rfl⟩, rfl, rfl⟩, hI⟩))).mono fun _ _ hr => by obtain ⟨_, _, _, rfl, ⟨_, hd, rfl, rfl⟩, hI⟩ := hr; obtain ⟨rfl, rfl⟩ := hd; exact ⟨_, _, _, rfl, ⟨rfl, rfl, rfl⟩, hI⟩)) ?_
                    rintro _ _ _ ⟨rfl, rfl, rfl⟩
                    refine ⟨_, _, Under.refl, Under.refl, ?_⟩
                    rw [Option.bind_eq_some_iff] at h
                    obtain ⟨t231, ht232, h⟩ := h
                    refine WA.op (i := 14) (m := 6) (b' := 32767) (by kernel_rfl) hS (by kernel_rfl) (op := .call { callee := (.value (.func 12)), args := #[(.tmp 119), (.tmp 120)], argTypes := #[25, 31] }) (ty := 4) (d := some 121) (g := some (8, false)) (by kernel_rfl) (by kernel_rfl) (by kernel_rfl) (Does.call (Φ := fun v' G' Γ' => v' = .bool t231 ∧ G189 = G' ∧ [(b203, .cells #[.int .i64 8, .int .i64 0, .slice none 0 0, .slice (some ⟨b199, 0, none⟩) ([(⟨9, 0, ([] : List ByteArray), ([a0] : List T25)⟩ : T25), (⟨9, 0, ([] : List ByteArray), ([a1] : List T25)⟩ : T25)] : List T25).length 2] 25 (0, 0))] :: [(b202, .cells #[.int .i64 9, .int .i64 0, .slice none 0 0, .slice (some ⟨b196, 0, none⟩) ([(⟨7, 0, ([] : List ByteArray), ([a0, a1] : List T25)⟩ : T25)] : List T25).length 1] 25 (0, 0))] :: [(b199, .cells #[.int .i64 9, .int .i64 0, .slice none 0 0, .slice (some ⟨b44, 0, none⟩) ([a0] : List T25).length 1, .int .i64 9, .int .i64 0, .slice none 0 0, .slice (some ⟨b47, 0, none⟩) ([a1] : List T25).length 1] 25 (0, 0))] :: [(b196, .cells #[.int .i64 7, .int .i64 0, .slice none 0 0, .slice (some ⟨b52, 0, none⟩) ([a0, a1] : List T25).length 2] 25 (0, 0))] :: [(b3, .cells #[.int .i64 a2.f0, .int .i64 a2.f1, .int .i64 a2.f2, .int .i64 a2.f3, .string a2.f4] 31 (0, 0))] :: Γ = Γ') (f := 12) (args := [.agg #[.int .i64 8, .int .i64 0, .slice none 0 0, .slice (some ⟨b199, 0, none⟩) ([(⟨9, 0, ([] : List ByteArray), ([a0] : List T25)⟩ : T25), (⟨9, 0, ([] : List ByteArray), ([a1] : List T25)⟩ : T25)] : List T25).length 2], .agg #[.int .i64 a2.f0, .int .i64 a2.f1, .int .i64 a2.f2, .int .i64 a2.f3, .string a2.f4]]) (by kernel_rfl) (fun W hI => (Calls.lendN (Φ := fun v' N => v' = .bool t231 ∧ N = []) (H := []) (i := 2) rfl hI (fun _ e l235 nl235 hI => by subst e; exact (((deem_Holds_calls ((HT.mono (GMap.le_trans (GMap.le_trans hle177 hle184) hle191)).mono l235) k (⟨8, 0, ([] : List ByteArray), ([(⟨9, 0, ([] : List ByteArray), ([a0] : List T25)⟩ : T25), (⟨9, 0, ([] : List ByteArray), ([a1] : List T25)⟩ : T25)] : List T25)⟩ : T25) a2 none 0 (Rd.nil _ _ _ _) (some ⟨b199, 0, none⟩) 2 ((show Ow k25 G189 (some ⟨b199, 0, none⟩) 2 ([(⟨9, 0, ([] : List ByteArray), ([a0] : List T25)⟩ : T25), (⟨9, 0, ([] : List ByteArray), ([a1] : List T25)⟩ : T25)] : List T25) [(b199, .cells #[.int .i64 9, .int .i64 0, .slice none 0 0, .slice (some ⟨b44, 0, none⟩) ([a0] : List T25).length 1, .int .i64 9, .int .i64 0, .slice none 0 0, .slice (some ⟨b47, 0, none⟩) ([a1] : List T25).length 1] 25 (0, 0))] from Ow.lit (kd := k25) (G := G189) (b := b199) (T := 25) (xs := ([(⟨9, 0, ([] : List ByteArray), ([a0] : List T25)⟩ : T25), (⟨9, 0, ([] : List ByteArray), ([a1] : List T25)⟩ : T25)] : List T25)) (cs := [.int .i64 9, .int .i64 0, .slice none 0 0, .slice (some ⟨b44, 0, none⟩) ([a0] : List T25).length 1, .int .i64 9, .int .i64 0, .slice none 0 0, .slice (some ⟨b47, 0, none⟩) ([a1] : List T25).length 1]) (.cons (x := (⟨9, 0, ([] : List ByteArray), ([a0] : List T25)⟩ : T25)) (cs := [.int .i64 9, .int .i64 0, .slice none 0 0, .slice (some ⟨b44, 0, none⟩) ([a0] : List T25).length 1]) (k25_in ⟨[.int .i64 9], _, rfl, rfl, ⟨[.int .i64 0], _, rfl, rfl, ⟨[.slice none 0 0], _, rfl, ⟨none, 0, rfl, (Rd.nil _ _ _ _)⟩, ⟨(some ⟨b44, 0, none⟩), 1, rfl, Hm195⟩⟩⟩⟩) (.cons (x := (⟨9, 0, ([] : List ByteArray), ([a1] : List T25)⟩ : T25)) (cs := [.int .i64 9, .int .i64 0, .slice none 0 0, .slice (some ⟨b47, 0, none⟩) ([a1] : List T25).length 1]) (k25_in ⟨[.int .i64 9], _, rfl, rfl, ⟨[.int .i64 0], _, rfl, rfl, ⟨[.slice none 0 0], _, rfl, ⟨none, 0, rfl, (Rd.nil _ _ _ _)⟩, ⟨(some ⟨b47, 0, none⟩), 1, rfl, Hz193⟩⟩⟩⟩) .nil))).rdN l235 nl235) t231 ht232 hI)).mono fun _ _ hr => by obtain ⟨_, _, _, rfl, hd, hI⟩ := hr; obtain ⟨rfl, rfl, rfl⟩ := hd; exact ⟨_, _, _, rfl, ⟨[], ⟨rfl, rfl⟩, rfl, rfl⟩, hI⟩))).mono fun _ _ hr => by obtain ⟨_, _, _, rfl, ⟨_, hd, rfl, rfl⟩, hI⟩ := hr; obtain ⟨rfl, rfl⟩ := hd; exact ⟨_, _, _, rfl, ⟨rfl, rfl, rfl⟩, hI⟩)) ?_
                    rintro _ _ _ ⟨rfl, rfl, rfl⟩
                    refine ⟨_, _, Under.refl, Under.refl, ?_⟩
                    refine WA.pure [15, 16, 17] [124] (m := 3) (b' := 262143) (L' := [(124, .bool (t226 == t231))]) (by kernel_rfl) (NoPanic.then (NoPanic.body)) Under.refl hS (by kernel_rfl) ?_
                    refine WA.split 124 (b := (t226 == t231)) (by kernel_rfl) (fun hc => ?_) (fun hc => ?_)
                    · replace hc := hc
                      rw [if_pos hc] at h
                      have hc236 := hc
                      clear hc
                      rw [Option.bind_eq_some_iff] at h
                      obtain ⟨t237, ht238, h⟩ := h
                      refine WA.op (i := 18) (m := 2) (b' := 524287) (by kernel_rfl) hS (by kernel_rfl) (op := .call { callee := (.value (.func 11)), args := #[], argTypes := #[] }) (ty := 4) (d := some 125) (g := some (17, true)) (by kernel_rfl) (by kernel_rfl) (by kernel_rfl) (Does.call (f := 11) (args := []) (by kernel_rfl) (fun W hI => (grapevinelaw15_awake_calls (HT.mono (GMap.le_trans (GMap.le_trans hle177 hle184) hle191)) k   t237 ht238 hI))) ?_
                      rintro _ _ _ ⟨rfl, rfl, rfl⟩
                      refine ⟨_, _, Under.refl, Under.refl, ?_⟩
                      refine WA.pure [19, 20] [6] (m := 0) (b' := 2097151) (L' := [(6, .bool t237)]) (by kernel_rfl) (NoPanic.then (NoPanic.body)) Under.refl hS (by kernel_rfl) ?_
                      refine WA.done hS (by kernel_rfl) ?_
                      refine QP.pick [6] ?_
                      refine QP.dropAt 4 ?_
                      refine QP.dropAt 3 ?_
                      refine QP.dropAt 2 ?_
                      refine QP.dropAt 1 ?_
                      refine QP.dropAt 0 ?_
                      refine QP.pick [6] ?_
                      exact QP.meet ⟨_, Option.some.inj h, rfl, rfl, rfl⟩
                    · replace hc := (Bool.eq_false_iff.1 hc)
                      rw [if_neg hc] at h
                      have hc236 := hc
                      clear hc
                      refine WA.pure [18, 19, 20] [6] (m := 0) (b' := 2097151) (L' := [(6, .bool false)]) (by kernel_rfl) (NoPanic.then (NoPanic.body)) Under.refl hS (by kernel_rfl) ?_
                      refine WA.done hS (by kernel_rfl) ?_
                      refine QP.pick [6] ?_
                      refine QP.dropAt 4 ?_
                      refine QP.dropAt 3 ?_
                      refine QP.dropAt 2 ?_
                      refine QP.dropAt 1 ?_
                      refine QP.dropAt 0 ?_
                      refine QP.pick [6] ?_
                      exact QP.meet ⟨_, Option.some.inj h, rfl, rfl, rfl⟩
              · rintro _ _ _ ⟨s204, rfl, rfl, rfl, rfl⟩
                clear h
                replace h := hk205
                refine WP.ret ?_
                obtain rfl := Option.some.inj h
                refine QP.lower (GMap.le_trans (GMap.le_trans hle177 hle184) hle191) ?_
                exact QP.returned [6] [.bool s204] _ (by kernel_rfl) (by kernel_rfl) (by kernel_rfl) (fun W hI => ⟨_, _, _, rfl, ⟨rfl, rfl, rfl⟩, hI⟩)
            refine WA.junc4 2 511 (fun b202 b203 b196 b199 => [(5, .pointer (some ⟨b3, 0, none⟩)), (13, .pointer (some ⟨b202, 0, none⟩)), (14, .pointer (some ⟨b203, 0, none⟩)), (102, .agg #[.int .i64 9, .int .i64 0, .slice none 0 0, .slice (some ⟨b196, 0, none⟩) ([(⟨7, 0, ([] : List ByteArray), ([a0, a1] : List T25)⟩ : T25)] : List T25).length 1]), (106, .agg #[.int .i64 8, .int .i64 0, .slice none 0 0, .slice (some ⟨b199, 0, none⟩) ([(⟨9, 0, ([] : List ByteArray), ([a0] : List T25)⟩ : T25), (⟨9, 0, ([] : List ByteArray), ([a1] : List T25)⟩ : T25)] : List T25).length 2])]) (fun b202 b203 b196 b199 => [(b203, .cells #[.int .i64 0, .int .i64 0, .slice none 0 0, .slice none 0 0] 25 (0, 0))] :: [(b202, .cells #[.int .i64 0, .int .i64 0, .slice none 0 0, .slice none 0 0] 25 (0, 0))] :: [(b199, .cells #[.int .i64 9, .int .i64 0, .slice none 0 0, .slice (some ⟨b44, 0, none⟩) ([a0] : List T25).length 1, .int .i64 9, .int .i64 0, .slice none 0 0, .slice (some ⟨b47, 0, none⟩) ([a1] : List T25).length 1] 25 (0, 0))] :: [(b196, .cells #[.int .i64 7, .int .i64 0, .slice none 0 0, .slice (some ⟨b52, 0, none⟩) ([a0, a1] : List T25).length 2] 25 (0, 0))] :: [(b55, .cells #[.int .i64 7, .int .i64 0, .slice none 0 0, .slice (some ⟨b52, 0, none⟩) ([a0, a1] : List T25).length 2] 25 (0, 0))] :: [] :: [(b51, .cells #[.int .i64 9, .int .i64 0, .slice none 0 0, .slice (some ⟨b47, 0, none⟩) ([a1] : List T25).length 1] 25 (0, 0))] :: [(b50, .cells #[.int .i64 9, .int .i64 0, .slice none 0 0, .slice (some ⟨b44, 0, none⟩) ([a0] : List T25).length 1] 25 (0, 0))] :: [] :: [] :: [(b3, .cells #[.int .i64 a2.f0, .int .i64 a2.f1, .int .i64 a2.f2, .int .i64 a2.f3, .string a2.f4] 31 (0, 0))] :: Γ) (fun b202 b203 b196 b199 => ?_) (fun J511 => ?_)
            · refine WA.op (i := 9) (m := 1) (b' := 1023) (by kernel_rfl) hS (by kernel_rfl) (op := .store 25 (.tmp 13) (.tmp 102)) (ty := 0) (d := none) (g := none) (by kernel_rfl) (by kernel_rfl) (by kernel_rfl) (Does.store_box (i := 1) (b := b202) (o := 0) (v := .agg #[.int .i64 9, .int .i64 0, .slice none 0 0, .slice (some ⟨b196, 0, none⟩) ([(⟨7, 0, ([] : List ByteArray), ([a0, a1] : List T25)⟩ : T25)] : List T25).length 1]) (by rfl) sz25 (by kernel_rfl) (by kernel_rfl) (by kernel_rfl) (Free.zero _) (Nat.le_of_ble_eq_true rfl) (cells' := #[.int .i64 9, .int .i64 0, .slice none 0 0, .slice (some ⟨b196, 0, none⟩) ([(⟨7, 0, ([] : List ByteArray), ([a0, a1] : List T25)⟩ : T25)] : List T25).length 1]) (by kernel_rfl)) ?_
              rintro _ _ _ ⟨rfl, rfl, rfl⟩
              refine ⟨_, _, Under.refl, (Under.subl (by repeat first | exact List.nil_sublist _ | apply List.Sublist.cons_cons | apply List.Sublist.cons)), ?_⟩
              exact WA.pickJ [5, 13, 14, 106] (J1023 b202 b203 b199 b196) (by kernel_rfl)
            refine WA.junc3 3 255 (fun b202 b196 b199 => [(5, .pointer (some ⟨b3, 0, none⟩)), (13, .pointer (some ⟨b202, 0, none⟩)), (102, .agg #[.int .i64 9, .int .i64 0, .slice none 0 0, .slice (some ⟨b196, 0, none⟩) ([(⟨7, 0, ([] : List ByteArray), ([a0, a1] : List T25)⟩ : T25)] : List T25).length 1]), (106, .agg #[.int .i64 8, .int .i64 0, .slice none 0 0, .slice (some ⟨b199, 0, none⟩) ([(⟨9, 0, ([] : List ByteArray), ([a0] : List T25)⟩ : T25), (⟨9, 0, ([] : List ByteArray), ([a1] : List T25)⟩ : T25)] : List T25).length 2])]) (fun b202 b196 b199 => [(b202, .cells #[.int .i64 0, .int .i64 0, .slice none 0 0, .slice none 0 0] 25 (0, 0))] :: [(b199, .cells #[.int .i64 9, .int .i64 0, .slice none 0 0, .slice (some ⟨b44, 0, none⟩) ([a0] : List T25).length 1, .int .i64 9, .int .i64 0, .slice none 0 0, .slice (some ⟨b47, 0, none⟩) ([a1] : List T25).length 1] 25 (0, 0))] :: [(b196, .cells #[.int .i64 7, .int .i64 0, .slice none 0 0, .slice (some ⟨b52, 0, none⟩) ([a0, a1] : List T25).length 2] 25 (0, 0))] :: [(b55, .cells #[.int .i64 7, .int .i64 0, .slice none 0 0, .slice (some ⟨b52, 0, none⟩) ([a0, a1] : List T25).length 2] 25 (0, 0))] :: [] :: [(b51, .cells #[.int .i64 9, .int .i64 0, .slice none 0 0, .slice (some ⟨b47, 0, none⟩) ([a1] : List T25).length 1] 25 (0, 0))] :: [(b50, .cells #[.int .i64 9, .int .i64 0, .slice none 0 0, .slice (some ⟨b44, 0, none⟩) ([a0] : List T25).length 1] 25 (0, 0))] :: [] :: [] :: [(b3, .cells #[.int .i64 a2.f0, .int .i64 a2.f1, .int .i64 a2.f2, .int .i64 a2.f3, .string a2.f4] 31 (0, 0))] :: Γ) (fun b202 b196 b199 => ?_) (fun J255 => ?_)
            · refine WA.op (i := 8) (m := 2) (b' := 511) (by kernel_rfl) hS (by kernel_rfl) (op := .alloc 25) (ty := 0) (d := some 14) (g := none) (by kernel_rfl) (by kernel_rfl) (by kernel_rfl) (Does.new (o := .cells #[.int .i64 0, .int .i64 0, .slice none 0 0, .slice none 0 0] 25 (0, 0)) (v := fun r => .pointer (some ⟨r, 0, none⟩)) (fun r => by kernel_rfl)) ?_
              rintro _ _ _ ⟨b203, rfl, rfl, rfl⟩
              refine ⟨_, _, Under.refl, (Under.subl (by repeat first | exact List.nil_sublist _ | apply List.Sublist.cons_cons | apply List.Sublist.cons)), ?_⟩
              exact WA.pickJ [5, 13, 14, 102, 106] (J511 b202 b203 b196 b199) (by kernel_rfl)
            refine WA.junc3 3 383 (fun b202 b196 b199 => [(5, .pointer (some ⟨b3, 0, none⟩)), (14, .pointer (some ⟨b202, 0, none⟩)), (102, .agg #[.int .i64 9, .int .i64 0, .slice none 0 0, .slice (some ⟨b196, 0, none⟩) ([(⟨7, 0, ([] : List ByteArray), ([a0, a1] : List T25)⟩ : T25)] : List T25).length 1]), (106, .agg #[.int .i64 8, .int .i64 0, .slice none 0 0, .slice (some ⟨b199, 0, none⟩) ([(⟨9, 0, ([] : List ByteArray), ([a0] : List T25)⟩ : T25), (⟨9, 0, ([] : List ByteArray), ([a1] : List T25)⟩ : T25)] : List T25).length 2])]) (fun b202 b196 b199 => [(b202, .cells #[.int .i64 0, .int .i64 0, .slice none 0 0, .slice none 0 0] 25 (0, 0))] :: [(b199, .cells #[.int .i64 9, .int .i64 0, .slice none 0 0, .slice (some ⟨b44, 0, none⟩) ([a0] : List T25).length 1, .int .i64 9, .int .i64 0, .slice none 0 0, .slice (some ⟨b47, 0, none⟩) ([a1] : List T25).length 1] 25 (0, 0))] :: [(b196, .cells #[.int .i64 7, .int .i64 0, .slice none 0 0, .slice (some ⟨b52, 0, none⟩) ([a0, a1] : List T25).length 2] 25 (0, 0))] :: [(b55, .cells #[.int .i64 7, .int .i64 0, .slice none 0 0, .slice (some ⟨b52, 0, none⟩) ([a0, a1] : List T25).length 2] 25 (0, 0))] :: [] :: [(b51, .cells #[.int .i64 9, .int .i64 0, .slice none 0 0, .slice (some ⟨b47, 0, none⟩) ([a1] : List T25).length 1] 25 (0, 0))] :: [(b50, .cells #[.int .i64 9, .int .i64 0, .slice none 0 0, .slice (some ⟨b44, 0, none⟩) ([a0] : List T25).length 1] 25 (0, 0))] :: [] :: [] :: [(b3, .cells #[.int .i64 a2.f0, .int .i64 a2.f1, .int .i64 a2.f2, .int .i64 a2.f3, .string a2.f4] 31 (0, 0))] :: Γ) (fun b202 b196 b199 => ?_) (fun J383 => ?_)
            · refine WA.op (i := 7) (m := 2) (b' := 511) (by kernel_rfl) hS (by kernel_rfl) (op := .alloc 25) (ty := 0) (d := some 13) (g := none) (by kernel_rfl) (by kernel_rfl) (by kernel_rfl) (Does.new (o := .cells #[.int .i64 0, .int .i64 0, .slice none 0 0, .slice none 0 0] 25 (0, 0)) (v := fun r => .pointer (some ⟨r, 0, none⟩)) (fun r => by kernel_rfl)) ?_
              rintro _ _ _ ⟨b203, rfl, rfl, rfl⟩
              refine ⟨_, _, Under.refl, (Under.subl (by repeat first | exact List.nil_sublist _ | apply List.Sublist.cons_cons | apply List.Sublist.cons)), ?_⟩
              refine WA.front (i := 10) rfl ?_
              refine WA.front (i := 10) rfl ?_
              refine WA.front (i := 10) rfl ?_
              refine WA.front (i := 10) rfl ?_
              refine WA.front (i := 10) rfl ?_
              refine WA.front (i := 10) rfl ?_
              refine WA.front (i := 10) rfl ?_
              refine WA.front (i := 10) rfl ?_
              refine WA.front (i := 10) rfl ?_
              refine WA.front (i := 9) rfl ?_
              refine WA.front (i := 10) rfl ?_
              exact WA.pickJ [5, 13, 14, 102, 106] (J511 b203 b202 b196 b199) (by kernel_rfl)
            refine WA.junc2 4 127 (fun b196 b199 => [(5, .pointer (some ⟨b3, 0, none⟩)), (102, .agg #[.int .i64 9, .int .i64 0, .slice none 0 0, .slice (some ⟨b196, 0, none⟩) ([(⟨7, 0, ([] : List ByteArray), ([a0, a1] : List T25)⟩ : T25)] : List T25).length 1]), (106, .agg #[.int .i64 8, .int .i64 0, .slice none 0 0, .slice (some ⟨b199, 0, none⟩) ([(⟨9, 0, ([] : List ByteArray), ([a0] : List T25)⟩ : T25), (⟨9, 0, ([] : List ByteArray), ([a1] : List T25)⟩ : T25)] : List T25).length 2])]) (fun b196 b199 => [(b199, .cells #[.int .i64 9, .int .i64 0, .slice none 0 0, .slice (some ⟨b44, 0, none⟩) ([a0] : List T25).length 1, .int .i64 9, .int .i64 0, .slice none 0 0, .slice (some ⟨b47, 0, none⟩) ([a1] : List T25).length 1] 25 (0, 0))] :: [(b196, .cells #[.int .i64 7, .int .i64 0, .slice none 0 0, .slice (some ⟨b52, 0, none⟩) ([a0, a1] : List T25).length 2] 25 (0, 0))] :: [(b55, .cells #[.int .i64 7, .int .i64 0, .slice none 0 0, .slice (some ⟨b52, 0, none⟩) ([a0, a1] : List T25).length 2] 25 (0, 0))] :: [] :: [(b51, .cells #[.int .i64 9, .int .i64 0, .slice none 0 0, .slice (some ⟨b47, 0, none⟩) ([a1] : List T25).length 1] 25 (0, 0))] :: [(b50, .cells #[.int .i64 9, .int .i64 0, .slice none 0 0, .slice (some ⟨b44, 0, none⟩) ([a0] : List T25).length 1] 25 (0, 0))] :: [] :: [] :: [(b3, .cells #[.int .i64 a2.f0, .int .i64 a2.f1, .int .i64 a2.f2, .int .i64 a2.f3, .string a2.f4] 31 (0, 0))] :: Γ) (fun b196 b199 => ?_) (fun J127 => ?_)
            · refine WA.many 7 [8] (m := 3) (by kernel_rfl) hS (by kernel_rfl) (.cons ?_ (.cons ?_ .nil))
              · refine WO.op (b' := 255) (by kernel_rfl) (op := .alloc 25) (ty := 0) (d := some 13) (g := none) (by kernel_rfl) (by kernel_rfl) (by kernel_rfl) (Does.new (o := .cells #[.int .i64 0, .int .i64 0, .slice none 0 0, .slice none 0 0] 25 (0, 0)) (v := fun r => .pointer (some ⟨r, 0, none⟩)) (fun r => by kernel_rfl)) ?_
                rintro _ _ _ ⟨b202, rfl, rfl, rfl⟩
                refine ⟨_, _, Under.refl, (Under.subl (by repeat first | exact List.nil_sublist _ | apply List.Sublist.cons_cons | apply List.Sublist.cons)), ?_⟩
                exact WA.pickJ [5, 13, 102, 106] (J255 b202 b196 b199) (by kernel_rfl)
              · refine WO.op (b' := 383) (by kernel_rfl) (op := .alloc 25) (ty := 0) (d := some 14) (g := none) (by kernel_rfl) (by kernel_rfl) (by kernel_rfl) (Does.new (o := .cells #[.int .i64 0, .int .i64 0, .slice none 0 0, .slice none 0 0] 25 (0, 0)) (v := fun r => .pointer (some ⟨r, 0, none⟩)) (fun r => by kernel_rfl)) ?_
                rintro _ _ _ ⟨b202, rfl, rfl, rfl⟩
                refine ⟨_, _, Under.refl, (Under.subl (by repeat first | exact List.nil_sublist _ | apply List.Sublist.cons_cons | apply List.Sublist.cons)), ?_⟩
                exact WA.pickJ [5, 14, 102, 106] (J383 b202 b196 b199) (by kernel_rfl)
            refine WA.junc3 3 927 (fun b199 b200 b196 => [(5, .pointer (some ⟨b3, 0, none⟩)), (13, .pointer (some ⟨b199, 0, none⟩)), (14, .pointer (some ⟨b200, 0, none⟩)), (103, .agg #[.int .i64 9, .int .i64 0, .slice none 0 0, .slice (some ⟨b44, 0, none⟩) ([a0] : List T25).length 1]), (104, .agg #[.int .i64 9, .int .i64 0, .slice none 0 0, .slice (some ⟨b47, 0, none⟩) ([a1] : List T25).length 1])]) (fun b199 b200 b196 => [(b200, .cells #[.int .i64 0, .int .i64 0, .slice none 0 0, .slice none 0 0] 25 (0, 0))] :: [(b199, .cells #[.int .i64 9, .int .i64 0, .slice none 0 0, .slice (some ⟨b196, 0, none⟩) ([(⟨7, 0, ([] : List ByteArray), ([a0, a1] : List T25)⟩ : T25)] : List T25).length 1] 25 (0, 0))] :: [(b196, .cells #[.int .i64 7, .int .i64 0, .slice none 0 0, .slice (some ⟨b52, 0, none⟩) ([a0, a1] : List T25).length 2] 25 (0, 0))] :: [(b55, .cells #[.int .i64 7, .int .i64 0, .slice none 0 0, .slice (some ⟨b52, 0, none⟩) ([a0, a1] : List T25).length 2] 25 (0, 0))] :: [] :: [(b51, .cells #[.int .i64 9, .int .i64 0, .slice none 0 0, .slice (some ⟨b47, 0, none⟩) ([a1] : List T25).length 1] 25 (0, 0))] :: [(b50, .cells #[.int .i64 9, .int .i64 0, .slice none 0 0, .slice (some ⟨b44, 0, none⟩) ([a0] : List T25).length 1] 25 (0, 0))] :: [] :: [] :: [(b3, .cells #[.int .i64 a2.f0, .int .i64 a2.f1, .int .i64 a2.f2, .int .i64 a2.f3, .string a2.f4] 31 (0, 0))] :: Γ) (fun b199 b200 b196 => ?_) (fun J927 => ?_)
            · refine WA.op (i := 5) (m := 2) (b' := 959) (by kernel_rfl) hS (by kernel_rfl) (op := .buildSlice 23 2 #[(0, (.tmp 103)), (1, (.tmp 104))]) (ty := 23) (d := some 105) (g := none) (by kernel_rfl) (by kernel_rfl) (by kernel_rfl) (Does.new (o := .cells #[.int .i64 9, .int .i64 0, .slice none 0 0, .slice (some ⟨b44, 0, none⟩) ([a0] : List T25).length 1, .int .i64 9, .int .i64 0, .slice none 0 0, .slice (some ⟨b47, 0, none⟩) ([a1] : List T25).length 1] 25 (0, 0)) (v := fun r => .slice (some ⟨r, 0, none⟩) 2 2) (fun r => by kernel_rfl)) ?_
              rintro _ _ _ ⟨b201, rfl, rfl, rfl⟩
              refine ⟨_, _, Under.refl, (Under.subl (by repeat first | exact List.nil_sublist _ | apply List.Sublist.cons_cons | apply List.Sublist.cons)), ?_⟩
              refine WA.pure [6] [5, 13, 14, 106] (m := 1) (b' := 1023) (L' := [(5, .pointer (some ⟨b3, 0, none⟩)), (13, .pointer (some ⟨b199, 0, none⟩)), (14, .pointer (some ⟨b200, 0, none⟩)), (106, .agg #[.int .i64 8, .int .i64 0, .slice none 0 0, .slice (some ⟨b201, 0, none⟩) ([(⟨9, 0, ([] : List ByteArray), ([a0] : List T25)⟩ : T25), (⟨9, 0, ([] : List ByteArray), ([a1] : List T25)⟩ : T25)] : List T25).length 2])]) (by kernel_rfl) (NoPanic.then (NoPanic.body)) (Under.subl (by repeat first | exact List.nil_sublist _ | apply List.Sublist.cons_cons | apply List.Sublist.cons)) hS (by kernel_rfl) ?_
              refine WA.front (i := 10) rfl ?_
              refine WA.front (i := 10) rfl ?_
              refine WA.front (i := 10) rfl ?_
              refine WA.front (i := 10) rfl ?_
              refine WA.front (i := 10) rfl ?_
              refine WA.front (i := 10) rfl ?_
              refine WA.front (i := 10) rfl ?_
              refine WA.front (i := 10) rfl ?_
              refine WA.front (i := 8) rfl ?_
              refine WA.front (i := 10) rfl ?_
              refine WA.front (i := 10) rfl ?_
              exact WA.pickJ [5, 13, 14, 106] (J1023 b199 b200 b201 b196) (by kernel_rfl)
            refine WA.junc3 4 415 (fun b199 b200 b196 => [(5, .pointer (some ⟨b3, 0, none⟩)), (13, .pointer (some ⟨b199, 0, none⟩)), (14, .pointer (some ⟨b200, 0, none⟩)), (102, .agg #[.int .i64 9, .int .i64 0, .slice none 0 0, .slice (some ⟨b196, 0, none⟩) ([(⟨7, 0, ([] : List ByteArray), ([a0, a1] : List T25)⟩ : T25)] : List T25).length 1]), (103, .agg #[.int .i64 9, .int .i64 0, .slice none 0 0, .slice (some ⟨b44, 0, none⟩) ([a0] : List T25).length 1]), (104, .agg #[.int .i64 9, .int .i64 0, .slice none 0 0, .slice (some ⟨b47, 0, none⟩) ([a1] : List T25).length 1])]) (fun b199 b200 b196 => [(b200, .cells #[.int .i64 0, .int .i64 0, .slice none 0 0, .slice none 0 0] 25 (0, 0))] :: [(b199, .cells #[.int .i64 0, .int .i64 0, .slice none 0 0, .slice none 0 0] 25 (0, 0))] :: [(b196, .cells #[.int .i64 7, .int .i64 0, .slice none 0 0, .slice (some ⟨b52, 0, none⟩) ([a0, a1] : List T25).length 2] 25 (0, 0))] :: [(b55, .cells #[.int .i64 7, .int .i64 0, .slice none 0 0, .slice (some ⟨b52, 0, none⟩) ([a0, a1] : List T25).length 2] 25 (0, 0))] :: [] :: [(b51, .cells #[.int .i64 9, .int .i64 0, .slice none 0 0, .slice (some ⟨b47, 0, none⟩) ([a1] : List T25).length 1] 25 (0, 0))] :: [(b50, .cells #[.int .i64 9, .int .i64 0, .slice none 0 0, .slice (some ⟨b44, 0, none⟩) ([a0] : List T25).length 1] 25 (0, 0))] :: [] :: [] :: [(b3, .cells #[.int .i64 a2.f0, .int .i64 a2.f1, .int .i64 a2.f2, .int .i64 a2.f3, .string a2.f4] 31 (0, 0))] :: Γ) (fun b199 b200 b196 => ?_) (fun J415 => ?_)
            · refine WA.many 5 [9] (m := 3) (by kernel_rfl) hS (by kernel_rfl) (.cons ?_ (.cons ?_ .nil))
              · refine WO.op (b' := 447) (by kernel_rfl) (op := .buildSlice 23 2 #[(0, (.tmp 103)), (1, (.tmp 104))]) (ty := 23) (d := some 105) (g := none) (by kernel_rfl) (by kernel_rfl) (by kernel_rfl) (Does.new (o := .cells #[.int .i64 9, .int .i64 0, .slice none 0 0, .slice (some ⟨b44, 0, none⟩) ([a0] : List T25).length 1, .int .i64 9, .int .i64 0, .slice none 0 0, .slice (some ⟨b47, 0, none⟩) ([a1] : List T25).length 1] 25 (0, 0)) (v := fun r => .slice (some ⟨r, 0, none⟩) 2 2) (fun r => by kernel_rfl)) ?_
                rintro _ _ _ ⟨b201, rfl, rfl, rfl⟩
                refine ⟨_, _, Under.refl, (Under.subl (by repeat first | exact List.nil_sublist _ | apply List.Sublist.cons_cons | apply List.Sublist.cons)), ?_⟩
                refine WA.pure [6] [5, 13, 14, 102, 106] (m := 2) (b' := 511) (L' := [(5, .pointer (some ⟨b3, 0, none⟩)), (13, .pointer (some ⟨b199, 0, none⟩)), (14, .pointer (some ⟨b200, 0, none⟩)), (102, .agg #[.int .i64 9, .int .i64 0, .slice none 0 0, .slice (some ⟨b196, 0, none⟩) ([(⟨7, 0, ([] : List ByteArray), ([a0, a1] : List T25)⟩ : T25)] : List T25).length 1]), (106, .agg #[.int .i64 8, .int .i64 0, .slice none 0 0, .slice (some ⟨b201, 0, none⟩) ([(⟨9, 0, ([] : List ByteArray), ([a0] : List T25)⟩ : T25), (⟨9, 0, ([] : List ByteArray), ([a1] : List T25)⟩ : T25)] : List T25).length 2])]) (by kernel_rfl) (NoPanic.then (NoPanic.body)) (Under.subl (by repeat first | exact List.nil_sublist _ | apply List.Sublist.cons_cons | apply List.Sublist.cons)) hS (by kernel_rfl) ?_
                refine WA.front (i := 10) rfl ?_
                refine WA.front (i := 10) rfl ?_
                refine WA.front (i := 10) rfl ?_
                refine WA.front (i := 10) rfl ?_
                refine WA.front (i := 10) rfl ?_
                refine WA.front (i := 10) rfl ?_
                refine WA.front (i := 10) rfl ?_
                refine WA.front (i := 10) rfl ?_
                refine WA.front (i := 8) rfl ?_
                refine WA.front (i := 10) rfl ?_
                refine WA.front (i := 10) rfl ?_
                exact WA.pickJ [5, 13, 14, 102, 106] (J511 b199 b200 b196 b201) (by kernel_rfl)
              · refine WO.op (b' := 927) (by kernel_rfl) (op := .store 25 (.tmp 13) (.tmp 102)) (ty := 0) (d := none) (g := none) (by kernel_rfl) (by kernel_rfl) (by kernel_rfl) (Does.store_box (i := 1) (b := b199) (o := 0) (v := .agg #[.int .i64 9, .int .i64 0, .slice none 0 0, .slice (some ⟨b196, 0, none⟩) ([(⟨7, 0, ([] : List ByteArray), ([a0, a1] : List T25)⟩ : T25)] : List T25).length 1]) (by rfl) sz25 (by kernel_rfl) (by kernel_rfl) (by kernel_rfl) (Free.zero _) (Nat.le_of_ble_eq_true rfl) (cells' := #[.int .i64 9, .int .i64 0, .slice none 0 0, .slice (some ⟨b196, 0, none⟩) ([(⟨7, 0, ([] : List ByteArray), ([a0, a1] : List T25)⟩ : T25)] : List T25).length 1]) (by kernel_rfl)) ?_
                rintro _ _ _ ⟨rfl, rfl, rfl⟩
                refine ⟨_, _, Under.refl, (Under.subl (by repeat first | exact List.nil_sublist _ | apply List.Sublist.cons_cons | apply List.Sublist.cons)), ?_⟩
                exact WA.pickJ [5, 13, 14, 103, 104] (J927 b199 b200 b196) (by kernel_rfl)
            refine WA.junc2 5 159 (fun b199 b196 => [(5, .pointer (some ⟨b3, 0, none⟩)), (13, .pointer (some ⟨b199, 0, none⟩)), (102, .agg #[.int .i64 9, .int .i64 0, .slice none 0 0, .slice (some ⟨b196, 0, none⟩) ([(⟨7, 0, ([] : List ByteArray), ([a0, a1] : List T25)⟩ : T25)] : List T25).length 1]), (103, .agg #[.int .i64 9, .int .i64 0, .slice none 0 0, .slice (some ⟨b44, 0, none⟩) ([a0] : List T25).length 1]), (104, .agg #[.int .i64 9, .int .i64 0, .slice none 0 0, .slice (some ⟨b47, 0, none⟩) ([a1] : List T25).length 1])]) (fun b199 b196 => [(b199, .cells #[.int .i64 0, .int .i64 0, .slice none 0 0, .slice none 0 0] 25 (0, 0))] :: [(b196, .cells #[.int .i64 7, .int .i64 0, .slice none 0 0, .slice (some ⟨b52, 0, none⟩) ([a0, a1] : List T25).length 2] 25 (0, 0))] :: [(b55, .cells #[.int .i64 7, .int .i64 0, .slice none 0 0, .slice (some ⟨b52, 0, none⟩) ([a0, a1] : List T25).length 2] 25 (0, 0))] :: [] :: [(b51, .cells #[.int .i64 9, .int .i64 0, .slice none 0 0, .slice (some ⟨b47, 0, none⟩) ([a1] : List T25).length 1] 25 (0, 0))] :: [(b50, .cells #[.int .i64 9, .int .i64 0, .slice none 0 0, .slice (some ⟨b44, 0, none⟩) ([a0] : List T25).length 1] 25 (0, 0))] :: [] :: [] :: [(b3, .cells #[.int .i64 a2.f0, .int .i64 a2.f1, .int .i64 a2.f2, .int .i64 a2.f3, .string a2.f4] 31 (0, 0))] :: Γ) (fun b199 b196 => ?_) (fun J159 => ?_)
            · refine WA.many 5 [8] (m := 4) (by kernel_rfl) hS (by kernel_rfl) (.cons ?_ (.cons ?_ .nil))
              · refine WO.op (b' := 191) (by kernel_rfl) (op := .buildSlice 23 2 #[(0, (.tmp 103)), (1, (.tmp 104))]) (ty := 23) (d := some 105) (g := none) (by kernel_rfl) (by kernel_rfl) (by kernel_rfl) (Does.new (o := .cells #[.int .i64 9, .int .i64 0, .slice none 0 0, .slice (some ⟨b44, 0, none⟩) ([a0] : List T25).length 1, .int .i64 9, .int .i64 0, .slice none 0 0, .slice (some ⟨b47, 0, none⟩) ([a1] : List T25).length 1] 25 (0, 0)) (v := fun r => .slice (some ⟨r, 0, none⟩) 2 2) (fun r => by kernel_rfl)) ?_
                rintro _ _ _ ⟨b200, rfl, rfl, rfl⟩
                refine ⟨_, _, Under.refl, (Under.subl (by repeat first | exact List.nil_sublist _ | apply List.Sublist.cons_cons | apply List.Sublist.cons)), ?_⟩
                refine WA.pure [6] [5, 13, 102, 106] (m := 3) (b' := 255) (L' := [(5, .pointer (some ⟨b3, 0, none⟩)), (13, .pointer (some ⟨b199, 0, none⟩)), (102, .agg #[.int .i64 9, .int .i64 0, .slice none 0 0, .slice (some ⟨b196, 0, none⟩) ([(⟨7, 0, ([] : List ByteArray), ([a0, a1] : List T25)⟩ : T25)] : List T25).length 1]), (106, .agg #[.int .i64 8, .int .i64 0, .slice none 0 0, .slice (some ⟨b200, 0, none⟩) ([(⟨9, 0, ([] : List ByteArray), ([a0] : List T25)⟩ : T25), (⟨9, 0, ([] : List ByteArray), ([a1] : List T25)⟩ : T25)] : List T25).length 2])]) (by kernel_rfl) (NoPanic.then (NoPanic.body)) (Under.subl (by repeat first | exact List.nil_sublist _ | apply List.Sublist.cons_cons | apply List.Sublist.cons)) hS (by kernel_rfl) ?_
                refine WA.front (i := 9) rfl ?_
                refine WA.front (i := 9) rfl ?_
                refine WA.front (i := 9) rfl ?_
                refine WA.front (i := 9) rfl ?_
                refine WA.front (i := 9) rfl ?_
                refine WA.front (i := 9) rfl ?_
                refine WA.front (i := 9) rfl ?_
                refine WA.front (i := 9) rfl ?_
                refine WA.front (i := 8) rfl ?_
                refine WA.front (i := 9) rfl ?_
                exact WA.pickJ [5, 13, 102, 106] (J255 b199 b196 b200) (by kernel_rfl)
              · refine WO.op (b' := 415) (by kernel_rfl) (op := .alloc 25) (ty := 0) (d := some 14) (g := none) (by kernel_rfl) (by kernel_rfl) (by kernel_rfl) (Does.new (o := .cells #[.int .i64 0, .int .i64 0, .slice none 0 0, .slice none 0 0] 25 (0, 0)) (v := fun r => .pointer (some ⟨r, 0, none⟩)) (fun r => by kernel_rfl)) ?_
                rintro _ _ _ ⟨b200, rfl, rfl, rfl⟩
                refine ⟨_, _, Under.refl, (Under.subl (by repeat first | exact List.nil_sublist _ | apply List.Sublist.cons_cons | apply List.Sublist.cons)), ?_⟩
                exact WA.pickJ [5, 13, 14, 102, 103, 104] (J415 b199 b200 b196) (by kernel_rfl)
            refine WA.junc2 5 287 (fun b199 b196 => [(5, .pointer (some ⟨b3, 0, none⟩)), (14, .pointer (some ⟨b199, 0, none⟩)), (102, .agg #[.int .i64 9, .int .i64 0, .slice none 0 0, .slice (some ⟨b196, 0, none⟩) ([(⟨7, 0, ([] : List ByteArray), ([a0, a1] : List T25)⟩ : T25)] : List T25).length 1]), (103, .agg #[.int .i64 9, .int .i64 0, .slice none 0 0, .slice (some ⟨b44, 0, none⟩) ([a0] : List T25).length 1]), (104, .agg #[.int .i64 9, .int .i64 0, .slice none 0 0, .slice (some ⟨b47, 0, none⟩) ([a1] : List T25).length 1])]) (fun b199 b196 => [(b199, .cells #[.int .i64 0, .int .i64 0, .slice none 0 0, .slice none 0 0] 25 (0, 0))] :: [(b196, .cells #[.int .i64 7, .int .i64 0, .slice none 0 0, .slice (some ⟨b52, 0, none⟩) ([a0, a1] : List T25).length 2] 25 (0, 0))] :: [(b55, .cells #[.int .i64 7, .int .i64 0, .slice none 0 0, .slice (some ⟨b52, 0, none⟩) ([a0, a1] : List T25).length 2] 25 (0, 0))] :: [] :: [(b51, .cells #[.int .i64 9, .int .i64 0, .slice none 0 0, .slice (some ⟨b47, 0, none⟩) ([a1] : List T25).length 1] 25 (0, 0))] :: [(b50, .cells #[.int .i64 9, .int .i64 0, .slice none 0 0, .slice (some ⟨b44, 0, none⟩) ([a0] : List T25).length 1] 25 (0, 0))] :: [] :: [] :: [(b3, .cells #[.int .i64 a2.f0, .int .i64 a2.f1, .int .i64 a2.f2, .int .i64 a2.f3, .string a2.f4] 31 (0, 0))] :: Γ) (fun b199 b196 => ?_) (fun J287 => ?_)
            · refine WA.many 5 [7] (m := 4) (by kernel_rfl) hS (by kernel_rfl) (.cons ?_ (.cons ?_ .nil))
              · refine WO.op (b' := 319) (by kernel_rfl) (op := .buildSlice 23 2 #[(0, (.tmp 103)), (1, (.tmp 104))]) (ty := 23) (d := some 105) (g := none) (by kernel_rfl) (by kernel_rfl) (by kernel_rfl) (Does.new (o := .cells #[.int .i64 9, .int .i64 0, .slice none 0 0, .slice (some ⟨b44, 0, none⟩) ([a0] : List T25).length 1, .int .i64 9, .int .i64 0, .slice none 0 0, .slice (some ⟨b47, 0, none⟩) ([a1] : List T25).length 1] 25 (0, 0)) (v := fun r => .slice (some ⟨r, 0, none⟩) 2 2) (fun r => by kernel_rfl)) ?_
                rintro _ _ _ ⟨b200, rfl, rfl, rfl⟩
                refine ⟨_, _, Under.refl, (Under.subl (by repeat first | exact List.nil_sublist _ | apply List.Sublist.cons_cons | apply List.Sublist.cons)), ?_⟩
                refine WA.pure [6] [5, 14, 102, 106] (m := 3) (b' := 383) (L' := [(5, .pointer (some ⟨b3, 0, none⟩)), (14, .pointer (some ⟨b199, 0, none⟩)), (102, .agg #[.int .i64 9, .int .i64 0, .slice none 0 0, .slice (some ⟨b196, 0, none⟩) ([(⟨7, 0, ([] : List ByteArray), ([a0, a1] : List T25)⟩ : T25)] : List T25).length 1]), (106, .agg #[.int .i64 8, .int .i64 0, .slice none 0 0, .slice (some ⟨b200, 0, none⟩) ([(⟨9, 0, ([] : List ByteArray), ([a0] : List T25)⟩ : T25), (⟨9, 0, ([] : List ByteArray), ([a1] : List T25)⟩ : T25)] : List T25).length 2])]) (by kernel_rfl) (NoPanic.then (NoPanic.body)) (Under.subl (by repeat first | exact List.nil_sublist _ | apply List.Sublist.cons_cons | apply List.Sublist.cons)) hS (by kernel_rfl) ?_
                refine WA.front (i := 9) rfl ?_
                refine WA.front (i := 9) rfl ?_
                refine WA.front (i := 9) rfl ?_
                refine WA.front (i := 9) rfl ?_
                refine WA.front (i := 9) rfl ?_
                refine WA.front (i := 9) rfl ?_
                refine WA.front (i := 9) rfl ?_
                refine WA.front (i := 9) rfl ?_
                refine WA.front (i := 8) rfl ?_
                refine WA.front (i := 9) rfl ?_
                exact WA.pickJ [5, 14, 102, 106] (J383 b199 b196 b200) (by kernel_rfl)
              · refine WO.op (b' := 415) (by kernel_rfl) (op := .alloc 25) (ty := 0) (d := some 13) (g := none) (by kernel_rfl) (by kernel_rfl) (by kernel_rfl) (Does.new (o := .cells #[.int .i64 0, .int .i64 0, .slice none 0 0, .slice none 0 0] 25 (0, 0)) (v := fun r => .pointer (some ⟨r, 0, none⟩)) (fun r => by kernel_rfl)) ?_
                rintro _ _ _ ⟨b200, rfl, rfl, rfl⟩
                refine ⟨_, _, Under.refl, (Under.subl (by repeat first | exact List.nil_sublist _ | apply List.Sublist.cons_cons | apply List.Sublist.cons)), ?_⟩
                refine WA.front (i := 9) rfl ?_
                refine WA.front (i := 9) rfl ?_
                refine WA.front (i := 9) rfl ?_
                refine WA.front (i := 9) rfl ?_
                refine WA.front (i := 9) rfl ?_
                refine WA.front (i := 9) rfl ?_
                refine WA.front (i := 9) rfl ?_
                refine WA.front (i := 9) rfl ?_
                refine WA.front (i := 8) rfl ?_
                refine WA.front (i := 9) rfl ?_
                exact WA.pickJ [5, 13, 14, 102, 103, 104] (J415 b200 b199 b196) (by kernel_rfl)
            refine WA.junc1 6 31 (fun b196 => [(5, .pointer (some ⟨b3, 0, none⟩)), (102, .agg #[.int .i64 9, .int .i64 0, .slice none 0 0, .slice (some ⟨b196, 0, none⟩) ([(⟨7, 0, ([] : List ByteArray), ([a0, a1] : List T25)⟩ : T25)] : List T25).length 1]), (103, .agg #[.int .i64 9, .int .i64 0, .slice none 0 0, .slice (some ⟨b44, 0, none⟩) ([a0] : List T25).length 1]), (104, .agg #[.int .i64 9, .int .i64 0, .slice none 0 0, .slice (some ⟨b47, 0, none⟩) ([a1] : List T25).length 1])]) (fun b196 => [(b196, .cells #[.int .i64 7, .int .i64 0, .slice none 0 0, .slice (some ⟨b52, 0, none⟩) ([a0, a1] : List T25).length 2] 25 (0, 0))] :: [(b55, .cells #[.int .i64 7, .int .i64 0, .slice none 0 0, .slice (some ⟨b52, 0, none⟩) ([a0, a1] : List T25).length 2] 25 (0, 0))] :: [] :: [(b51, .cells #[.int .i64 9, .int .i64 0, .slice none 0 0, .slice (some ⟨b47, 0, none⟩) ([a1] : List T25).length 1] 25 (0, 0))] :: [(b50, .cells #[.int .i64 9, .int .i64 0, .slice none 0 0, .slice (some ⟨b44, 0, none⟩) ([a0] : List T25).length 1] 25 (0, 0))] :: [] :: [] :: [(b3, .cells #[.int .i64 a2.f0, .int .i64 a2.f1, .int .i64 a2.f2, .int .i64 a2.f3, .string a2.f4] 31 (0, 0))] :: Γ) (fun b196 => ?_) (fun J31 => ?_)
            · refine WA.many 5 [7, 8] (m := 5) (by kernel_rfl) hS (by kernel_rfl) (.cons ?_ (.cons ?_ (.cons ?_ .nil)))
              · refine WO.op (b' := 63) (by kernel_rfl) (op := .buildSlice 23 2 #[(0, (.tmp 103)), (1, (.tmp 104))]) (ty := 23) (d := some 105) (g := none) (by kernel_rfl) (by kernel_rfl) (by kernel_rfl) (Does.new (o := .cells #[.int .i64 9, .int .i64 0, .slice none 0 0, .slice (some ⟨b44, 0, none⟩) ([a0] : List T25).length 1, .int .i64 9, .int .i64 0, .slice none 0 0, .slice (some ⟨b47, 0, none⟩) ([a1] : List T25).length 1] 25 (0, 0)) (v := fun r => .slice (some ⟨r, 0, none⟩) 2 2) (fun r => by kernel_rfl)) ?_
                rintro _ _ _ ⟨b199, rfl, rfl, rfl⟩
                refine ⟨_, _, Under.refl, (Under.subl (by repeat first | exact List.nil_sublist _ | apply List.Sublist.cons_cons | apply List.Sublist.cons)), ?_⟩
                refine WA.pure [6] [5, 102, 106] (m := 4) (b' := 127) (L' := [(5, .pointer (some ⟨b3, 0, none⟩)), (102, .agg #[.int .i64 9, .int .i64 0, .slice none 0 0, .slice (some ⟨b196, 0, none⟩) ([(⟨7, 0, ([] : List ByteArray), ([a0, a1] : List T25)⟩ : T25)] : List T25).length 1]), (106, .agg #[.int .i64 8, .int .i64 0, .slice none 0 0, .slice (some ⟨b199, 0, none⟩) ([(⟨9, 0, ([] : List ByteArray), ([a0] : List T25)⟩ : T25), (⟨9, 0, ([] : List ByteArray), ([a1] : List T25)⟩ : T25)] : List T25).length 2])]) (by kernel_rfl) (NoPanic.then (NoPanic.body)) (Under.subl (by repeat first | exact List.nil_sublist _ | apply List.Sublist.cons_cons | apply List.Sublist.cons)) hS (by kernel_rfl) ?_
                exact WA.pickJ [5, 102, 106] (J127 b196 b199) (by kernel_rfl)
              · refine WO.op (b' := 159) (by kernel_rfl) (op := .alloc 25) (ty := 0) (d := some 13) (g := none) (by kernel_rfl) (by kernel_rfl) (by kernel_rfl) (Does.new (o := .cells #[.int .i64 0, .int .i64 0, .slice none 0 0, .slice none 0 0] 25 (0, 0)) (v := fun r => .pointer (some ⟨r, 0, none⟩)) (fun r => by kernel_rfl)) ?_
                rintro _ _ _ ⟨b199, rfl, rfl, rfl⟩
                refine ⟨_, _, Under.refl, (Under.subl (by repeat first | exact List.nil_sublist _ | apply List.Sublist.cons_cons | apply List.Sublist.cons)), ?_⟩
                exact WA.pickJ [5, 13, 102, 103, 104] (J159 b199 b196) (by kernel_rfl)
              · refine WO.op (b' := 287) (by kernel_rfl) (op := .alloc 25) (ty := 0) (d := some 14) (g := none) (by kernel_rfl) (by kernel_rfl) (by kernel_rfl) (Does.new (o := .cells #[.int .i64 0, .int .i64 0, .slice none 0 0, .slice none 0 0] 25 (0, 0)) (v := fun r => .pointer (some ⟨r, 0, none⟩)) (fun r => by kernel_rfl)) ?_
                rintro _ _ _ ⟨b199, rfl, rfl, rfl⟩
                refine ⟨_, _, Under.refl, (Under.subl (by repeat first | exact List.nil_sublist _ | apply List.Sublist.cons_cons | apply List.Sublist.cons)), ?_⟩
                exact WA.pickJ [5, 14, 102, 103, 104] (J287 b199 b196) (by kernel_rfl)
            refine WA.junc3 4 505 (fun b199 b200 b196 => [(5, .pointer (some ⟨b3, 0, none⟩)), (13, .pointer (some ⟨b199, 0, none⟩)), (14, .pointer (some ⟨b200, 0, none⟩)), (100, .agg #[.int .i64 7, .int .i64 0, .slice none 0 0, .slice (some ⟨b52, 0, none⟩) ([a0, a1] : List T25).length 2]), (106, .agg #[.int .i64 8, .int .i64 0, .slice none 0 0, .slice (some ⟨b196, 0, none⟩) ([(⟨9, 0, ([] : List ByteArray), ([a0] : List T25)⟩ : T25), (⟨9, 0, ([] : List ByteArray), ([a1] : List T25)⟩ : T25)] : List T25).length 2])]) (fun b199 b200 b196 => [(b200, .cells #[.int .i64 0, .int .i64 0, .slice none 0 0, .slice none 0 0] 25 (0, 0))] :: [(b199, .cells #[.int .i64 0, .int .i64 0, .slice none 0 0, .slice none 0 0] 25 (0, 0))] :: [(b196, .cells #[.int .i64 9, .int .i64 0, .slice none 0 0, .slice (some ⟨b44, 0, none⟩) ([a0] : List T25).length 1, .int .i64 9, .int .i64 0, .slice none 0 0, .slice (some ⟨b47, 0, none⟩) ([a1] : List T25).length 1] 25 (0, 0))] :: [(b55, .cells #[.int .i64 7, .int .i64 0, .slice none 0 0, .slice (some ⟨b52, 0, none⟩) ([a0, a1] : List T25).length 2] 25 (0, 0))] :: [] :: [(b51, .cells #[.int .i64 9, .int .i64 0, .slice none 0 0, .slice (some ⟨b47, 0, none⟩) ([a1] : List T25).length 1] 25 (0, 0))] :: [(b50, .cells #[.int .i64 9, .int .i64 0, .slice none 0 0, .slice (some ⟨b44, 0, none⟩) ([a0] : List T25).length 1] 25 (0, 0))] :: [] :: [] :: [(b3, .cells #[.int .i64 a2.f0, .int .i64 a2.f1, .int .i64 a2.f2, .int .i64 a2.f3, .string a2.f4] 31 (0, 0))] :: Γ) (fun b199 b200 b196 => ?_) (fun J505 => ?_)
            · refine WA.op (i := 1) (m := 3) (b' := 507) (by kernel_rfl) hS (by kernel_rfl) (op := .buildSlice 23 1 #[(0, (.tmp 100))]) (ty := 23) (d := some 101) (g := none) (by kernel_rfl) (by kernel_rfl) (by kernel_rfl) (Does.new (o := .cells #[.int .i64 7, .int .i64 0, .slice none 0 0, .slice (some ⟨b52, 0, none⟩) ([a0, a1] : List T25).length 2] 25 (0, 0)) (v := fun r => .slice (some ⟨r, 0, none⟩) 1 1) (fun r => by kernel_rfl)) ?_
              rintro _ _ _ ⟨b201, rfl, rfl, rfl⟩
              refine ⟨_, _, Under.refl, (Under.subl (by repeat first | exact List.nil_sublist _ | apply List.Sublist.cons_cons | apply List.Sublist.cons)), ?_⟩
              refine WA.pure [2] [5, 13, 14, 102, 106] (m := 2) (b' := 511) (L' := [(5, .pointer (some ⟨b3, 0, none⟩)), (13, .pointer (some ⟨b199, 0, none⟩)), (14, .pointer (some ⟨b200, 0, none⟩)), (102, .agg #[.int .i64 9, .int .i64 0, .slice none 0 0, .slice (some ⟨b201, 0, none⟩) ([(⟨7, 0, ([] : List ByteArray), ([a0, a1] : List T25)⟩ : T25)] : List T25).length 1]), (106, .agg #[.int .i64 8, .int .i64 0, .slice none 0 0, .slice (some ⟨b196, 0, none⟩) ([(⟨9, 0, ([] : List ByteArray), ([a0] : List T25)⟩ : T25), (⟨9, 0, ([] : List ByteArray), ([a1] : List T25)⟩ : T25)] : List T25).length 2])]) (by kernel_rfl) (NoPanic.then (NoPanic.body)) (Under.subl (by repeat first | exact List.nil_sublist _ | apply List.Sublist.cons_cons | apply List.Sublist.cons)) hS (by kernel_rfl) ?_
              refine WA.front (i := 10) rfl ?_
              refine WA.front (i := 10) rfl ?_
              refine WA.front (i := 10) rfl ?_
              refine WA.front (i := 10) rfl ?_
              refine WA.front (i := 10) rfl ?_
              refine WA.front (i := 10) rfl ?_
              refine WA.front (i := 10) rfl ?_
              refine WA.front (i := 7) rfl ?_
              refine WA.front (i := 10) rfl ?_
              refine WA.front (i := 10) rfl ?_
              refine WA.front (i := 10) rfl ?_
              exact WA.pickJ [5, 13, 14, 102, 106] (J511 b199 b200 b201 b196) (by kernel_rfl)
            refine WA.junc2 5 249 (fun b199 b196 => [(5, .pointer (some ⟨b3, 0, none⟩)), (13, .pointer (some ⟨b199, 0, none⟩)), (100, .agg #[.int .i64 7, .int .i64 0, .slice none 0 0, .slice (some ⟨b52, 0, none⟩) ([a0, a1] : List T25).length 2]), (106, .agg #[.int .i64 8, .int .i64 0, .slice none 0 0, .slice (some ⟨b196, 0, none⟩) ([(⟨9, 0, ([] : List ByteArray), ([a0] : List T25)⟩ : T25), (⟨9, 0, ([] : List ByteArray), ([a1] : List T25)⟩ : T25)] : List T25).length 2])]) (fun b199 b196 => [(b199, .cells #[.int .i64 0, .int .i64 0, .slice none 0 0, .slice none 0 0] 25 (0, 0))] :: [(b196, .cells #[.int .i64 9, .int .i64 0, .slice none 0 0, .slice (some ⟨b44, 0, none⟩) ([a0] : List T25).length 1, .int .i64 9, .int .i64 0, .slice none 0 0, .slice (some ⟨b47, 0, none⟩) ([a1] : List T25).length 1] 25 (0, 0))] :: [(b55, .cells #[.int .i64 7, .int .i64 0, .slice none 0 0, .slice (some ⟨b52, 0, none⟩) ([a0, a1] : List T25).length 2] 25 (0, 0))] :: [] :: [(b51, .cells #[.int .i64 9, .int .i64 0, .slice none 0 0, .slice (some ⟨b47, 0, none⟩) ([a1] : List T25).length 1] 25 (0, 0))] :: [(b50, .cells #[.int .i64 9, .int .i64 0, .slice none 0 0, .slice (some ⟨b44, 0, none⟩) ([a0] : List T25).length 1] 25 (0, 0))] :: [] :: [] :: [(b3, .cells #[.int .i64 a2.f0, .int .i64 a2.f1, .int .i64 a2.f2, .int .i64 a2.f3, .string a2.f4] 31 (0, 0))] :: Γ) (fun b199 b196 => ?_) (fun J249 => ?_)
            · refine WA.many 1 [8] (m := 4) (by kernel_rfl) hS (by kernel_rfl) (.cons ?_ (.cons ?_ .nil))
              · refine WO.op (b' := 251) (by kernel_rfl) (op := .buildSlice 23 1 #[(0, (.tmp 100))]) (ty := 23) (d := some 101) (g := none) (by kernel_rfl) (by kernel_rfl) (by kernel_rfl) (Does.new (o := .cells #[.int .i64 7, .int .i64 0, .slice none 0 0, .slice (some ⟨b52, 0, none⟩) ([a0, a1] : List T25).length 2] 25 (0, 0)) (v := fun r => .slice (some ⟨r, 0, none⟩) 1 1) (fun r => by kernel_rfl)) ?_
                rintro _ _ _ ⟨b200, rfl, rfl, rfl⟩
                refine ⟨_, _, Under.refl, (Under.subl (by repeat first | exact List.nil_sublist _ | apply List.Sublist.cons_cons | apply List.Sublist.cons)), ?_⟩
                refine WA.pure [2] [5, 13, 102, 106] (m := 3) (b' := 255) (L' := [(5, .pointer (some ⟨b3, 0, none⟩)), (13, .pointer (some ⟨b199, 0, none⟩)), (102, .agg #[.int .i64 9, .int .i64 0, .slice none 0 0, .slice (some ⟨b200, 0, none⟩) ([(⟨7, 0, ([] : List ByteArray), ([a0, a1] : List T25)⟩ : T25)] : List T25).length 1]), (106, .agg #[.int .i64 8, .int .i64 0, .slice none 0 0, .slice (some ⟨b196, 0, none⟩) ([(⟨9, 0, ([] : List ByteArray), ([a0] : List T25)⟩ : T25), (⟨9, 0, ([] : List ByteArray), ([a1] : List T25)⟩ : T25)] : List T25).length 2])]) (by kernel_rfl) (NoPanic.then (NoPanic.body)) (Under.subl (by repeat first | exact List.nil_sublist _ | apply List.Sublist.cons_cons | apply List.Sublist.cons)) hS (by kernel_rfl) ?_
                refine WA.front (i := 9) rfl ?_
                refine WA.front (i := 9) rfl ?_
                refine WA.front (i := 9) rfl ?_
                refine WA.front (i := 9) rfl ?_
                refine WA.front (i := 9) rfl ?_
                refine WA.front (i := 9) rfl ?_
                refine WA.front (i := 9) rfl ?_
                refine WA.front (i := 7) rfl ?_
                refine WA.front (i := 9) rfl ?_
                refine WA.front (i := 9) rfl ?_
                exact WA.pickJ [5, 13, 102, 106] (J255 b199 b200 b196) (by kernel_rfl)
              · refine WO.op (b' := 505) (by kernel_rfl) (op := .alloc 25) (ty := 0) (d := some 14) (g := none) (by kernel_rfl) (by kernel_rfl) (by kernel_rfl) (Does.new (o := .cells #[.int .i64 0, .int .i64 0, .slice none 0 0, .slice none 0 0] 25 (0, 0)) (v := fun r => .pointer (some ⟨r, 0, none⟩)) (fun r => by kernel_rfl)) ?_
                rintro _ _ _ ⟨b200, rfl, rfl, rfl⟩
                refine ⟨_, _, Under.refl, (Under.subl (by repeat first | exact List.nil_sublist _ | apply List.Sublist.cons_cons | apply List.Sublist.cons)), ?_⟩
                exact WA.pickJ [5, 13, 14, 100, 106] (J505 b199 b200 b196) (by kernel_rfl)
            refine WA.junc2 5 377 (fun b199 b196 => [(5, .pointer (some ⟨b3, 0, none⟩)), (14, .pointer (some ⟨b199, 0, none⟩)), (100, .agg #[.int .i64 7, .int .i64 0, .slice none 0 0, .slice (some ⟨b52, 0, none⟩) ([a0, a1] : List T25).length 2]), (106, .agg #[.int .i64 8, .int .i64 0, .slice none 0 0, .slice (some ⟨b196, 0, none⟩) ([(⟨9, 0, ([] : List ByteArray), ([a0] : List T25)⟩ : T25), (⟨9, 0, ([] : List ByteArray), ([a1] : List T25)⟩ : T25)] : List T25).length 2])]) (fun b199 b196 => [(b199, .cells #[.int .i64 0, .int .i64 0, .slice none 0 0, .slice none 0 0] 25 (0, 0))] :: [(b196, .cells #[.int .i64 9, .int .i64 0, .slice none 0 0, .slice (some ⟨b44, 0, none⟩) ([a0] : List T25).length 1, .int .i64 9, .int .i64 0, .slice none 0 0, .slice (some ⟨b47, 0, none⟩) ([a1] : List T25).length 1] 25 (0, 0))] :: [(b55, .cells #[.int .i64 7, .int .i64 0, .slice none 0 0, .slice (some ⟨b52, 0, none⟩) ([a0, a1] : List T25).length 2] 25 (0, 0))] :: [] :: [(b51, .cells #[.int .i64 9, .int .i64 0, .slice none 0 0, .slice (some ⟨b47, 0, none⟩) ([a1] : List T25).length 1] 25 (0, 0))] :: [(b50, .cells #[.int .i64 9, .int .i64 0, .slice none 0 0, .slice (some ⟨b44, 0, none⟩) ([a0] : List T25).length 1] 25 (0, 0))] :: [] :: [] :: [(b3, .cells #[.int .i64 a2.f0, .int .i64 a2.f1, .int .i64 a2.f2, .int .i64 a2.f3, .string a2.f4] 31 (0, 0))] :: Γ) (fun b199 b196 => ?_) (fun J377 => ?_)
            · refine WA.many 1 [7] (m := 4) (by kernel_rfl) hS (by kernel_rfl) (.cons ?_ (.cons ?_ .nil))
              · refine WO.op (b' := 379) (by kernel_rfl) (op := .buildSlice 23 1 #[(0, (.tmp 100))]) (ty := 23) (d := some 101) (g := none) (by kernel_rfl) (by kernel_rfl) (by kernel_rfl) (Does.new (o := .cells #[.int .i64 7, .int .i64 0, .slice none 0 0, .slice (some ⟨b52, 0, none⟩) ([a0, a1] : List T25).length 2] 25 (0, 0)) (v := fun r => .slice (some ⟨r, 0, none⟩) 1 1) (fun r => by kernel_rfl)) ?_
                rintro _ _ _ ⟨b200, rfl, rfl, rfl⟩
                refine ⟨_, _, Under.refl, (Under.subl (by repeat first | exact List.nil_sublist _ | apply List.Sublist.cons_cons | apply List.Sublist.cons)), ?_⟩
                refine WA.pure [2] [5, 14, 102, 106] (m := 3) (b' := 383) (L' := [(5, .pointer (some ⟨b3, 0, none⟩)), (14, .pointer (some ⟨b199, 0, none⟩)), (102, .agg #[.int .i64 9, .int .i64 0, .slice none 0 0, .slice (some ⟨b200, 0, none⟩) ([(⟨7, 0, ([] : List ByteArray), ([a0, a1] : List T25)⟩ : T25)] : List T25).length 1]), (106, .agg #[.int .i64 8, .int .i64 0, .slice none 0 0, .slice (some ⟨b196, 0, none⟩) ([(⟨9, 0, ([] : List ByteArray), ([a0] : List T25)⟩ : T25), (⟨9, 0, ([] : List ByteArray), ([a1] : List T25)⟩ : T25)] : List T25).length 2])]) (by kernel_rfl) (NoPanic.then (NoPanic.body)) (Under.subl (by repeat first | exact List.nil_sublist _ | apply List.Sublist.cons_cons | apply List.Sublist.cons)) hS (by kernel_rfl) ?_
                refine WA.front (i := 9) rfl ?_
                refine WA.front (i := 9) rfl ?_
                refine WA.front (i := 9) rfl ?_
                refine WA.front (i := 9) rfl ?_
                refine WA.front (i := 9) rfl ?_
                refine WA.front (i := 9) rfl ?_
                refine WA.front (i := 9) rfl ?_
                refine WA.front (i := 7) rfl ?_
                refine WA.front (i := 9) rfl ?_
                refine WA.front (i := 9) rfl ?_
                exact WA.pickJ [5, 14, 102, 106] (J383 b199 b200 b196) (by kernel_rfl)
              · refine WO.op (b' := 505) (by kernel_rfl) (op := .alloc 25) (ty := 0) (d := some 13) (g := none) (by kernel_rfl) (by kernel_rfl) (by kernel_rfl) (Does.new (o := .cells #[.int .i64 0, .int .i64 0, .slice none 0 0, .slice none 0 0] 25 (0, 0)) (v := fun r => .pointer (some ⟨r, 0, none⟩)) (fun r => by kernel_rfl)) ?_
                rintro _ _ _ ⟨b200, rfl, rfl, rfl⟩
                refine ⟨_, _, Under.refl, (Under.subl (by repeat first | exact List.nil_sublist _ | apply List.Sublist.cons_cons | apply List.Sublist.cons)), ?_⟩
                refine WA.front (i := 9) rfl ?_
                refine WA.front (i := 9) rfl ?_
                refine WA.front (i := 9) rfl ?_
                refine WA.front (i := 9) rfl ?_
                refine WA.front (i := 9) rfl ?_
                refine WA.front (i := 9) rfl ?_
                refine WA.front (i := 9) rfl ?_
                refine WA.front (i := 9) rfl ?_
                refine WA.front (i := 8) rfl ?_
                refine WA.front (i := 9) rfl ?_
                exact WA.pickJ [5, 13, 14, 100, 106] (J505 b200 b199 b196) (by kernel_rfl)
            refine WA.junc1 6 121 (fun b196 => [(5, .pointer (some ⟨b3, 0, none⟩)), (100, .agg #[.int .i64 7, .int .i64 0, .slice none 0 0, .slice (some ⟨b52, 0, none⟩) ([a0, a1] : List T25).length 2]), (106, .agg #[.int .i64 8, .int .i64 0, .slice none 0 0, .slice (some ⟨b196, 0, none⟩) ([(⟨9, 0, ([] : List ByteArray), ([a0] : List T25)⟩ : T25), (⟨9, 0, ([] : List ByteArray), ([a1] : List T25)⟩ : T25)] : List T25).length 2])]) (fun b196 => [(b196, .cells #[.int .i64 9, .int .i64 0, .slice none 0 0, .slice (some ⟨b44, 0, none⟩) ([a0] : List T25).length 1, .int .i64 9, .int .i64 0, .slice none 0 0, .slice (some ⟨b47, 0, none⟩) ([a1] : List T25).length 1] 25 (0, 0))] :: [(b55, .cells #[.int .i64 7, .int .i64 0, .slice none 0 0, .slice (some ⟨b52, 0, none⟩) ([a0, a1] : List T25).length 2] 25 (0, 0))] :: [] :: [(b51, .cells #[.int .i64 9, .int .i64 0, .slice none 0 0, .slice (some ⟨b47, 0, none⟩) ([a1] : List T25).length 1] 25 (0, 0))] :: [(b50, .cells #[.int .i64 9, .int .i64 0, .slice none 0 0, .slice (some ⟨b44, 0, none⟩) ([a0] : List T25).length 1] 25 (0, 0))] :: [] :: [] :: [(b3, .cells #[.int .i64 a2.f0, .int .i64 a2.f1, .int .i64 a2.f2, .int .i64 a2.f3, .string a2.f4] 31 (0, 0))] :: Γ) (fun b196 => ?_) (fun J121 => ?_)
            · refine WA.many 1 [7, 8] (m := 5) (by kernel_rfl) hS (by kernel_rfl) (.cons ?_ (.cons ?_ (.cons ?_ .nil)))
              · refine WO.op (b' := 123) (by kernel_rfl) (op := .buildSlice 23 1 #[(0, (.tmp 100))]) (ty := 23) (d := some 101) (g := none) (by kernel_rfl) (by kernel_rfl) (by kernel_rfl) (Does.new (o := .cells #[.int .i64 7, .int .i64 0, .slice none 0 0, .slice (some ⟨b52, 0, none⟩) ([a0, a1] : List T25).length 2] 25 (0, 0)) (v := fun r => .slice (some ⟨r, 0, none⟩) 1 1) (fun r => by kernel_rfl)) ?_
                rintro _ _ _ ⟨b199, rfl, rfl, rfl⟩
                refine ⟨_, _, Under.refl, (Under.subl (by repeat first | exact List.nil_sublist _ | apply List.Sublist.cons_cons | apply List.Sublist.cons)), ?_⟩
                refine WA.pure [2] [5, 102, 106] (m := 4) (b' := 127) (L' := [(5, .pointer (some ⟨b3, 0, none⟩)), (102, .agg #[.int .i64 9, .int .i64 0, .slice none 0 0, .slice (some ⟨b199, 0, none⟩) ([(⟨7, 0, ([] : List ByteArray), ([a0, a1] : List T25)⟩ : T25)] : List T25).length 1]), (106, .agg #[.int .i64 8, .int .i64 0, .slice none 0 0, .slice (some ⟨b196, 0, none⟩) ([(⟨9, 0, ([] : List ByteArray), ([a0] : List T25)⟩ : T25), (⟨9, 0, ([] : List ByteArray), ([a1] : List T25)⟩ : T25)] : List T25).length 2])]) (by kernel_rfl) (NoPanic.then (NoPanic.body)) (Under.subl (by repeat first | exact List.nil_sublist _ | apply List.Sublist.cons_cons | apply List.Sublist.cons)) hS (by kernel_rfl) ?_
                refine WA.front (i := 8) rfl ?_
                refine WA.front (i := 8) rfl ?_
                refine WA.front (i := 8) rfl ?_
                refine WA.front (i := 8) rfl ?_
                refine WA.front (i := 8) rfl ?_
                refine WA.front (i := 8) rfl ?_
                refine WA.front (i := 8) rfl ?_
                refine WA.front (i := 7) rfl ?_
                refine WA.front (i := 8) rfl ?_
                exact WA.pickJ [5, 102, 106] (J127 b199 b196) (by kernel_rfl)
              · refine WO.op (b' := 249) (by kernel_rfl) (op := .alloc 25) (ty := 0) (d := some 13) (g := none) (by kernel_rfl) (by kernel_rfl) (by kernel_rfl) (Does.new (o := .cells #[.int .i64 0, .int .i64 0, .slice none 0 0, .slice none 0 0] 25 (0, 0)) (v := fun r => .pointer (some ⟨r, 0, none⟩)) (fun r => by kernel_rfl)) ?_
                rintro _ _ _ ⟨b199, rfl, rfl, rfl⟩
                refine ⟨_, _, Under.refl, (Under.subl (by repeat first | exact List.nil_sublist _ | apply List.Sublist.cons_cons | apply List.Sublist.cons)), ?_⟩
                exact WA.pickJ [5, 13, 100, 106] (J249 b199 b196) (by kernel_rfl)
              · refine WO.op (b' := 377) (by kernel_rfl) (op := .alloc 25) (ty := 0) (d := some 14) (g := none) (by kernel_rfl) (by kernel_rfl) (by kernel_rfl) (Does.new (o := .cells #[.int .i64 0, .int .i64 0, .slice none 0 0, .slice none 0 0] 25 (0, 0)) (v := fun r => .pointer (some ⟨r, 0, none⟩)) (fun r => by kernel_rfl)) ?_
                rintro _ _ _ ⟨b199, rfl, rfl, rfl⟩
                refine ⟨_, _, Under.refl, (Under.subl (by repeat first | exact List.nil_sublist _ | apply List.Sublist.cons_cons | apply List.Sublist.cons)), ?_⟩
                exact WA.pickJ [5, 14, 100, 106] (J377 b199 b196) (by kernel_rfl)
            refine WA.junc2 6 409 (fun b196 b197 => [(5, .pointer (some ⟨b3, 0, none⟩)), (13, .pointer (some ⟨b196, 0, none⟩)), (14, .pointer (some ⟨b197, 0, none⟩)), (100, .agg #[.int .i64 7, .int .i64 0, .slice none 0 0, .slice (some ⟨b52, 0, none⟩) ([a0, a1] : List T25).length 2]), (103, .agg #[.int .i64 9, .int .i64 0, .slice none 0 0, .slice (some ⟨b44, 0, none⟩) ([a0] : List T25).length 1]), (104, .agg #[.int .i64 9, .int .i64 0, .slice none 0 0, .slice (some ⟨b47, 0, none⟩) ([a1] : List T25).length 1])]) (fun b196 b197 => [(b197, .cells #[.int .i64 0, .int .i64 0, .slice none 0 0, .slice none 0 0] 25 (0, 0))] :: [(b196, .cells #[.int .i64 0, .int .i64 0, .slice none 0 0, .slice none 0 0] 25 (0, 0))] :: [(b55, .cells #[.int .i64 7, .int .i64 0, .slice none 0 0, .slice (some ⟨b52, 0, none⟩) ([a0, a1] : List T25).length 2] 25 (0, 0))] :: [] :: [(b51, .cells #[.int .i64 9, .int .i64 0, .slice none 0 0, .slice (some ⟨b47, 0, none⟩) ([a1] : List T25).length 1] 25 (0, 0))] :: [(b50, .cells #[.int .i64 9, .int .i64 0, .slice none 0 0, .slice (some ⟨b44, 0, none⟩) ([a0] : List T25).length 1] 25 (0, 0))] :: [] :: [] :: [(b3, .cells #[.int .i64 a2.f0, .int .i64 a2.f1, .int .i64 a2.f2, .int .i64 a2.f3, .string a2.f4] 31 (0, 0))] :: Γ) (fun b196 b197 => ?_) (fun J409 => ?_)
            · refine WA.many 1 [5] (m := 5) (by kernel_rfl) hS (by kernel_rfl) (.cons ?_ (.cons ?_ .nil))
              · refine WO.op (b' := 411) (by kernel_rfl) (op := .buildSlice 23 1 #[(0, (.tmp 100))]) (ty := 23) (d := some 101) (g := none) (by kernel_rfl) (by kernel_rfl) (by kernel_rfl) (Does.new (o := .cells #[.int .i64 7, .int .i64 0, .slice none 0 0, .slice (some ⟨b52, 0, none⟩) ([a0, a1] : List T25).length 2] 25 (0, 0)) (v := fun r => .slice (some ⟨r, 0, none⟩) 1 1) (fun r => by kernel_rfl)) ?_
                rintro _ _ _ ⟨b198, rfl, rfl, rfl⟩
                refine ⟨_, _, Under.refl, (Under.subl (by repeat first | exact List.nil_sublist _ | apply List.Sublist.cons_cons | apply List.Sublist.cons)), ?_⟩
                refine WA.pure [2] [5, 13, 14, 102, 103, 104] (m := 4) (b' := 415) (L' := [(5, .pointer (some ⟨b3, 0, none⟩)), (13, .pointer (some ⟨b196, 0, none⟩)), (14, .pointer (some ⟨b197, 0, none⟩)), (102, .agg #[.int .i64 9, .int .i64 0, .slice none 0 0, .slice (some ⟨b198, 0, none⟩) ([(⟨7, 0, ([] : List ByteArray), ([a0, a1] : List T25)⟩ : T25)] : List T25).length 1]), (103, .agg #[.int .i64 9, .int .i64 0, .slice none 0 0, .slice (some ⟨b44, 0, none⟩) ([a0] : List T25).length 1]), (104, .agg #[.int .i64 9, .int .i64 0, .slice none 0 0, .slice (some ⟨b47, 0, none⟩) ([a1] : List T25).length 1])]) (by kernel_rfl) (NoPanic.then (NoPanic.body)) (Under.subl (by repeat first | exact List.nil_sublist _ | apply List.Sublist.cons_cons | apply List.Sublist.cons)) hS (by kernel_rfl) ?_
                refine WA.front (i := 9) rfl ?_
                refine WA.front (i := 9) rfl ?_
                refine WA.front (i := 9) rfl ?_
                refine WA.front (i := 9) rfl ?_
                refine WA.front (i := 9) rfl ?_
                refine WA.front (i := 9) rfl ?_
                refine WA.front (i := 9) rfl ?_
                refine WA.front (i := 7) rfl ?_
                refine WA.front (i := 9) rfl ?_
                refine WA.front (i := 9) rfl ?_
                exact WA.pickJ [5, 13, 14, 102, 103, 104] (J415 b196 b197 b198) (by kernel_rfl)
              · refine WO.op (b' := 441) (by kernel_rfl) (op := .buildSlice 23 2 #[(0, (.tmp 103)), (1, (.tmp 104))]) (ty := 23) (d := some 105) (g := none) (by kernel_rfl) (by kernel_rfl) (by kernel_rfl) (Does.new (o := .cells #[.int .i64 9, .int .i64 0, .slice none 0 0, .slice (some ⟨b44, 0, none⟩) ([a0] : List T25).length 1, .int .i64 9, .int .i64 0, .slice none 0 0, .slice (some ⟨b47, 0, none⟩) ([a1] : List T25).length 1] 25 (0, 0)) (v := fun r => .slice (some ⟨r, 0, none⟩) 2 2) (fun r => by kernel_rfl)) ?_
                rintro _ _ _ ⟨b198, rfl, rfl, rfl⟩
                refine ⟨_, _, Under.refl, (Under.subl (by repeat first | exact List.nil_sublist _ | apply List.Sublist.cons_cons | apply List.Sublist.cons)), ?_⟩
                refine WA.pure [6] [5, 13, 14, 100, 106] (m := 4) (b' := 505) (L' := [(5, .pointer (some ⟨b3, 0, none⟩)), (13, .pointer (some ⟨b196, 0, none⟩)), (14, .pointer (some ⟨b197, 0, none⟩)), (100, .agg #[.int .i64 7, .int .i64 0, .slice none 0 0, .slice (some ⟨b52, 0, none⟩) ([a0, a1] : List T25).length 2]), (106, .agg #[.int .i64 8, .int .i64 0, .slice none 0 0, .slice (some ⟨b198, 0, none⟩) ([(⟨9, 0, ([] : List ByteArray), ([a0] : List T25)⟩ : T25), (⟨9, 0, ([] : List ByteArray), ([a1] : List T25)⟩ : T25)] : List T25).length 2])]) (by kernel_rfl) (NoPanic.then (NoPanic.body)) (Under.subl (by repeat first | exact List.nil_sublist _ | apply List.Sublist.cons_cons | apply List.Sublist.cons)) hS (by kernel_rfl) ?_
                refine WA.front (i := 9) rfl ?_
                refine WA.front (i := 9) rfl ?_
                refine WA.front (i := 9) rfl ?_
                refine WA.front (i := 9) rfl ?_
                refine WA.front (i := 9) rfl ?_
                refine WA.front (i := 9) rfl ?_
                refine WA.front (i := 9) rfl ?_
                refine WA.front (i := 7) rfl ?_
                refine WA.front (i := 9) rfl ?_
                refine WA.front (i := 9) rfl ?_
                exact WA.pickJ [5, 13, 14, 100, 106] (J505 b196 b197 b198) (by kernel_rfl)
            refine WA.junc1 7 153 (fun b196 => [(5, .pointer (some ⟨b3, 0, none⟩)), (13, .pointer (some ⟨b196, 0, none⟩)), (100, .agg #[.int .i64 7, .int .i64 0, .slice none 0 0, .slice (some ⟨b52, 0, none⟩) ([a0, a1] : List T25).length 2]), (103, .agg #[.int .i64 9, .int .i64 0, .slice none 0 0, .slice (some ⟨b44, 0, none⟩) ([a0] : List T25).length 1]), (104, .agg #[.int .i64 9, .int .i64 0, .slice none 0 0, .slice (some ⟨b47, 0, none⟩) ([a1] : List T25).length 1])]) (fun b196 => [(b196, .cells #[.int .i64 0, .int .i64 0, .slice none 0 0, .slice none 0 0] 25 (0, 0))] :: [(b55, .cells #[.int .i64 7, .int .i64 0, .slice none 0 0, .slice (some ⟨b52, 0, none⟩) ([a0, a1] : List T25).length 2] 25 (0, 0))] :: [] :: [(b51, .cells #[.int .i64 9, .int .i64 0, .slice none 0 0, .slice (some ⟨b47, 0, none⟩) ([a1] : List T25).length 1] 25 (0, 0))] :: [(b50, .cells #[.int .i64 9, .int .i64 0, .slice none 0 0, .slice (some ⟨b44, 0, none⟩) ([a0] : List T25).length 1] 25 (0, 0))] :: [] :: [] :: [(b3, .cells #[.int .i64 a2.f0, .int .i64 a2.f1, .int .i64 a2.f2, .int .i64 a2.f3, .string a2.f4] 31 (0, 0))] :: Γ) (fun b196 => ?_) (fun J153 => ?_)
            · refine WA.many 1 [5, 8] (m := 6) (by kernel_rfl) hS (by kernel_rfl) (.cons ?_ (.cons ?_ (.cons ?_ .nil)))
              · refine WO.op (b' := 155) (by kernel_rfl) (op := .buildSlice 23 1 #[(0, (.tmp 100))]) (ty := 23) (d := some 101) (g := none) (by kernel_rfl) (by kernel_rfl) (by kernel_rfl) (Does.new (o := .cells #[.int .i64 7, .int .i64 0, .slice none 0 0, .slice (some ⟨b52, 0, none⟩) ([a0, a1] : List T25).length 2] 25 (0, 0)) (v := fun r => .slice (some ⟨r, 0, none⟩) 1 1) (fun r => by kernel_rfl)) ?_
                rintro _ _ _ ⟨b197, rfl, rfl, rfl⟩
                refine ⟨_, _, Under.refl, (Under.subl (by repeat first | exact List.nil_sublist _ | apply List.Sublist.cons_cons | apply List.Sublist.cons)), ?_⟩
                refine WA.pure [2] [5, 13, 102, 103, 104] (m := 5) (b' := 159) (L' := [(5, .pointer (some ⟨b3, 0, none⟩)), (13, .pointer (some ⟨b196, 0, none⟩)), (102, .agg #[.int .i64 9, .int .i64 0, .slice none 0 0, .slice (some ⟨b197, 0, none⟩) ([(⟨7, 0, ([] : List ByteArray), ([a0, a1] : List T25)⟩ : T25)] : List T25).length 1]), (103, .agg #[.int .i64 9, .int .i64 0, .slice none 0 0, .slice (some ⟨b44, 0, none⟩) ([a0] : List T25).length 1]), (104, .agg #[.int .i64 9, .int .i64 0, .slice none 0 0, .slice (some ⟨b47, 0, none⟩) ([a1] : List T25).length 1])]) (by kernel_rfl) (NoPanic.then (NoPanic.body)) (Under.subl (by repeat first | exact List.nil_sublist _ | apply List.Sublist.cons_cons | apply List.Sublist.cons)) hS (by kernel_rfl) ?_
                refine WA.front (i := 8) rfl ?_
                refine WA.front (i := 8) rfl ?_
                refine WA.front (i := 8) rfl ?_
                refine WA.front (i := 8) rfl ?_
                refine WA.front (i := 8) rfl ?_
                refine WA.front (i := 8) rfl ?_
                refine WA.front (i := 8) rfl ?_
                refine WA.front (i := 7) rfl ?_
                refine WA.front (i := 8) rfl ?_
                exact WA.pickJ [5, 13, 102, 103, 104] (J159 b196 b197) (by kernel_rfl)
              · refine WO.op (b' := 185) (by kernel_rfl) (op := .buildSlice 23 2 #[(0, (.tmp 103)), (1, (.tmp 104))]) (ty := 23) (d := some 105) (g := none) (by kernel_rfl) (by kernel_rfl) (by kernel_rfl) (Does.new (o := .cells #[.int .i64 9, .int .i64 0, .slice none 0 0, .slice (some ⟨b44, 0, none⟩) ([a0] : List T25).length 1, .int .i64 9, .int .i64 0, .slice none 0 0, .slice (some ⟨b47, 0, none⟩) ([a1] : List T25).length 1] 25 (0, 0)) (v := fun r => .slice (some ⟨r, 0, none⟩) 2 2) (fun r => by kernel_rfl)) ?_
                rintro _ _ _ ⟨b197, rfl, rfl, rfl⟩
                refine ⟨_, _, Under.refl, (Under.subl (by repeat first | exact List.nil_sublist _ | apply List.Sublist.cons_cons | apply List.Sublist.cons)), ?_⟩
                refine WA.pure [6] [5, 13, 100, 106] (m := 5) (b' := 249) (L' := [(5, .pointer (some ⟨b3, 0, none⟩)), (13, .pointer (some ⟨b196, 0, none⟩)), (100, .agg #[.int .i64 7, .int .i64 0, .slice none 0 0, .slice (some ⟨b52, 0, none⟩) ([a0, a1] : List T25).length 2]), (106, .agg #[.int .i64 8, .int .i64 0, .slice none 0 0, .slice (some ⟨b197, 0, none⟩) ([(⟨9, 0, ([] : List ByteArray), ([a0] : List T25)⟩ : T25), (⟨9, 0, ([] : List ByteArray), ([a1] : List T25)⟩ : T25)] : List T25).length 2])]) (by kernel_rfl) (NoPanic.then (NoPanic.body)) (Under.subl (by repeat first | exact List.nil_sublist _ | apply List.Sublist.cons_cons | apply List.Sublist.cons)) hS (by kernel_rfl) ?_
                refine WA.front (i := 8) rfl ?_
                refine WA.front (i := 8) rfl ?_
                refine WA.front (i := 8) rfl ?_
                refine WA.front (i := 8) rfl ?_
                refine WA.front (i := 8) rfl ?_
                refine WA.front (i := 8) rfl ?_
                refine WA.front (i := 8) rfl ?_
                refine WA.front (i := 7) rfl ?_
                refine WA.front (i := 8) rfl ?_
                exact WA.pickJ [5, 13, 100, 106] (J249 b196 b197) (by kernel_rfl)
              · refine WO.op (b' := 409) (by kernel_rfl) (op := .alloc 25) (ty := 0) (d := some 14) (g := none) (by kernel_rfl) (by kernel_rfl) (by kernel_rfl) (Does.new (o := .cells #[.int .i64 0, .int .i64 0, .slice none 0 0, .slice none 0 0] 25 (0, 0)) (v := fun r => .pointer (some ⟨r, 0, none⟩)) (fun r => by kernel_rfl)) ?_
                rintro _ _ _ ⟨b197, rfl, rfl, rfl⟩
                refine ⟨_, _, Under.refl, (Under.subl (by repeat first | exact List.nil_sublist _ | apply List.Sublist.cons_cons | apply List.Sublist.cons)), ?_⟩
                exact WA.pickJ [5, 13, 14, 100, 103, 104] (J409 b196 b197) (by kernel_rfl)
            refine WA.junc1 7 281 (fun b196 => [(5, .pointer (some ⟨b3, 0, none⟩)), (14, .pointer (some ⟨b196, 0, none⟩)), (100, .agg #[.int .i64 7, .int .i64 0, .slice none 0 0, .slice (some ⟨b52, 0, none⟩) ([a0, a1] : List T25).length 2]), (103, .agg #[.int .i64 9, .int .i64 0, .slice none 0 0, .slice (some ⟨b44, 0, none⟩) ([a0] : List T25).length 1]), (104, .agg #[.int .i64 9, .int .i64 0, .slice none 0 0, .slice (some ⟨b47, 0, none⟩) ([a1] : List T25).length 1])]) (fun b196 => [(b196, .cells #[.int .i64 0, .int .i64 0, .slice none 0 0, .slice none 0 0] 25 (0, 0))] :: [(b55, .cells #[.int .i64 7, .int .i64 0, .slice none 0 0, .slice (some ⟨b52, 0, none⟩) ([a0, a1] : List T25).length 2] 25 (0, 0))] :: [] :: [(b51, .cells #[.int .i64 9, .int .i64 0, .slice none 0 0, .slice (some ⟨b47, 0, none⟩) ([a1] : List T25).length 1] 25 (0, 0))] :: [(b50, .cells #[.int .i64 9, .int .i64 0, .slice none 0 0, .slice (some ⟨b44, 0, none⟩) ([a0] : List T25).length 1] 25 (0, 0))] :: [] :: [] :: [(b3, .cells #[.int .i64 a2.f0, .int .i64 a2.f1, .int .i64 a2.f2, .int .i64 a2.f3, .string a2.f4] 31 (0, 0))] :: Γ) (fun b196 => ?_) (fun J281 => ?_)
            · refine WA.many 1 [5, 7] (m := 6) (by kernel_rfl) hS (by kernel_rfl) (.cons ?_ (.cons ?_ (.cons ?_ .nil)))
              · refine WO.op (b' := 283) (by kernel_rfl) (op := .buildSlice 23 1 #[(0, (.tmp 100))]) (ty := 23) (d := some 101) (g := none) (by kernel_rfl) (by kernel_rfl) (by kernel_rfl) (Does.new (o := .cells #[.int .i64 7, .int .i64 0, .slice none 0 0, .slice (some ⟨b52, 0, none⟩) ([a0, a1] : List T25).length 2] 25 (0, 0)) (v := fun r => .slice (some ⟨r, 0, none⟩) 1 1) (fun r => by kernel_rfl)) ?_
                rintro _ _ _ ⟨b197, rfl, rfl, rfl⟩
                refine ⟨_, _, Under.refl, (Under.subl (by repeat first | exact List.nil_sublist _ | apply List.Sublist.cons_cons | apply List.Sublist.cons)), ?_⟩
                refine WA.pure [2] [5, 14, 102, 103, 104] (m := 5) (b' := 287) (L' := [(5, .pointer (some ⟨b3, 0, none⟩)), (14, .pointer (some ⟨b196, 0, none⟩)), (102, .agg #[.int .i64 9, .int .i64 0, .slice none 0 0, .slice (some ⟨b197, 0, none⟩) ([(⟨7, 0, ([] : List ByteArray), ([a0, a1] : List T25)⟩ : T25)] : List T25).length 1]), (103, .agg #[.int .i64 9, .int .i64 0, .slice none 0 0, .slice (some ⟨b44, 0, none⟩) ([a0] : List T25).length 1]), (104, .agg #[.int .i64 9, .int .i64 0, .slice none 0 0, .slice (some ⟨b47, 0, none⟩) ([a1] : List T25).length 1])]) (by kernel_rfl) (NoPanic.then (NoPanic.body)) (Under.subl (by repeat first | exact List.nil_sublist _ | apply List.Sublist.cons_cons | apply List.Sublist.cons)) hS (by kernel_rfl) ?_
                refine WA.front (i := 8) rfl ?_
                refine WA.front (i := 8) rfl ?_
                refine WA.front (i := 8) rfl ?_
                refine WA.front (i := 8) rfl ?_
                refine WA.front (i := 8) rfl ?_
                refine WA.front (i := 8) rfl ?_
                refine WA.front (i := 8) rfl ?_
                refine WA.front (i := 7) rfl ?_
                refine WA.front (i := 8) rfl ?_
                exact WA.pickJ [5, 14, 102, 103, 104] (J287 b196 b197) (by kernel_rfl)
              · refine WO.op (b' := 313) (by kernel_rfl) (op := .buildSlice 23 2 #[(0, (.tmp 103)), (1, (.tmp 104))]) (ty := 23) (d := some 105) (g := none) (by kernel_rfl) (by kernel_rfl) (by kernel_rfl) (Does.new (o := .cells #[.int .i64 9, .int .i64 0, .slice none 0 0, .slice (some ⟨b44, 0, none⟩) ([a0] : List T25).length 1, .int .i64 9, .int .i64 0, .slice none 0 0, .slice (some ⟨b47, 0, none⟩) ([a1] : List T25).length 1] 25 (0, 0)) (v := fun r => .slice (some ⟨r, 0, none⟩) 2 2) (fun r => by kernel_rfl)) ?_
                rintro _ _ _ ⟨b197, rfl, rfl, rfl⟩
                refine ⟨_, _, Under.refl, (Under.subl (by repeat first | exact List.nil_sublist _ | apply List.Sublist.cons_cons | apply List.Sublist.cons)), ?_⟩
                refine WA.pure [6] [5, 14, 100, 106] (m := 5) (b' := 377) (L' := [(5, .pointer (some ⟨b3, 0, none⟩)), (14, .pointer (some ⟨b196, 0, none⟩)), (100, .agg #[.int .i64 7, .int .i64 0, .slice none 0 0, .slice (some ⟨b52, 0, none⟩) ([a0, a1] : List T25).length 2]), (106, .agg #[.int .i64 8, .int .i64 0, .slice none 0 0, .slice (some ⟨b197, 0, none⟩) ([(⟨9, 0, ([] : List ByteArray), ([a0] : List T25)⟩ : T25), (⟨9, 0, ([] : List ByteArray), ([a1] : List T25)⟩ : T25)] : List T25).length 2])]) (by kernel_rfl) (NoPanic.then (NoPanic.body)) (Under.subl (by repeat first | exact List.nil_sublist _ | apply List.Sublist.cons_cons | apply List.Sublist.cons)) hS (by kernel_rfl) ?_
                refine WA.front (i := 8) rfl ?_
                refine WA.front (i := 8) rfl ?_
                refine WA.front (i := 8) rfl ?_
                refine WA.front (i := 8) rfl ?_
                refine WA.front (i := 8) rfl ?_
                refine WA.front (i := 8) rfl ?_
                refine WA.front (i := 8) rfl ?_
                refine WA.front (i := 7) rfl ?_
                refine WA.front (i := 8) rfl ?_
                exact WA.pickJ [5, 14, 100, 106] (J377 b196 b197) (by kernel_rfl)
              · refine WO.op (b' := 409) (by kernel_rfl) (op := .alloc 25) (ty := 0) (d := some 13) (g := none) (by kernel_rfl) (by kernel_rfl) (by kernel_rfl) (Does.new (o := .cells #[.int .i64 0, .int .i64 0, .slice none 0 0, .slice none 0 0] 25 (0, 0)) (v := fun r => .pointer (some ⟨r, 0, none⟩)) (fun r => by kernel_rfl)) ?_
                rintro _ _ _ ⟨b197, rfl, rfl, rfl⟩
                refine ⟨_, _, Under.refl, (Under.subl (by repeat first | exact List.nil_sublist _ | apply List.Sublist.cons_cons | apply List.Sublist.cons)), ?_⟩
                refine WA.front (i := 8) rfl ?_
                refine WA.front (i := 8) rfl ?_
                refine WA.front (i := 8) rfl ?_
                refine WA.front (i := 8) rfl ?_
                refine WA.front (i := 8) rfl ?_
                refine WA.front (i := 8) rfl ?_
                refine WA.front (i := 8) rfl ?_
                refine WA.front (i := 7) rfl ?_
                refine WA.front (i := 8) rfl ?_
                exact WA.pickJ [5, 13, 14, 100, 103, 104] (J409 b197 b196) (by kernel_rfl)
            refine WA.tellD [] (i := 0) (m := 10) (b' := 1) (by kernel_rfl) (NoPanic.then (NoPanic.body)) (Under.subl (by repeat first | exact List.nil_sublist _ | apply List.Sublist.cons_cons | apply List.Sublist.cons)) hS (by kernel_rfl) (op := .load 25 (.tmp 11)) (ty := 25) (d := some 100) (g := none) (by kernel_rfl) (by kernel_rfl) (by kernel_rfl) (Tells.load_box (i := 0) (b := b55) (o := 0) (agg := true) (by rfl) ag25 (by kernel_rfl) (fun h => by cases h) (Nat.le_of_ble_eq_true rfl) (v := .agg #[.int .i64 7, .int .i64 0, .slice none 0 0, .slice (some ⟨b52, 0, none⟩) ([a0, a1] : List T25).length 2]) (by kernel_rfl)) ?_
            refine WA.tellD [] (i := 3) (m := 9) (b' := 9) (by kernel_rfl) (NoPanic.then (NoPanic.body)) (Under.subl (by repeat first | exact List.nil_sublist _ | apply List.Sublist.cons_cons | apply List.Sublist.cons)) hS (by kernel_rfl) (op := .load 25 (.tmp 9)) (ty := 25) (d := some 103) (g := none) (by kernel_rfl) (by kernel_rfl) (by kernel_rfl) (Tells.load_box (i := 2) (b := b50) (o := 0) (agg := true) (by rfl) ag25 (by kernel_rfl) (fun h => by cases h) (Nat.le_of_ble_eq_true rfl) (v := .agg #[.int .i64 9, .int .i64 0, .slice none 0 0, .slice (some ⟨b44, 0, none⟩) ([a0] : List T25).length 1]) (by kernel_rfl)) ?_
            refine WA.tellD [] (i := 4) (m := 8) (b' := 25) (by kernel_rfl) (NoPanic.then (NoPanic.body)) (Under.subl (by repeat first | exact List.nil_sublist _ | apply List.Sublist.cons_cons | apply List.Sublist.cons)) hS (by kernel_rfl) (op := .load 25 (.tmp 10)) (ty := 25) (d := some 104) (g := none) (by kernel_rfl) (by kernel_rfl) (by kernel_rfl) (Tells.load_box (i := 1) (b := b51) (o := 0) (agg := true) (by rfl) ag25 (by kernel_rfl) (fun h => by cases h) (Nat.le_of_ble_eq_true rfl) (v := .agg #[.int .i64 9, .int .i64 0, .slice none 0 0, .slice (some ⟨b47, 0, none⟩) ([a1] : List T25).length 1]) (by kernel_rfl)) ?_
            refine WA.many 1 [5, 7, 8] (m := 7) (by kernel_rfl) hS (by kernel_rfl) (.cons ?_ (.cons ?_ (.cons ?_ (.cons ?_ .nil))))
            · refine WO.op (b' := 27) (by kernel_rfl) (op := .buildSlice 23 1 #[(0, (.tmp 100))]) (ty := 23) (d := some 101) (g := none) (by kernel_rfl) (by kernel_rfl) (by kernel_rfl) (Does.new (o := .cells #[.int .i64 7, .int .i64 0, .slice none 0 0, .slice (some ⟨b52, 0, none⟩) ([a0, a1] : List T25).length 2] 25 (0, 0)) (v := fun r => .slice (some ⟨r, 0, none⟩) 1 1) (fun r => by kernel_rfl)) ?_
              rintro _ _ _ ⟨b196, rfl, rfl, rfl⟩
              refine ⟨_, _, Under.refl, (Under.subl (by repeat first | exact List.nil_sublist _ | apply List.Sublist.cons_cons | apply List.Sublist.cons)), ?_⟩
              refine WA.pure [2] [5, 102, 103, 104] (m := 6) (b' := 31) (L' := [(5, .pointer (some ⟨b3, 0, none⟩)), (102, .agg #[.int .i64 9, .int .i64 0, .slice none 0 0, .slice (some ⟨b196, 0, none⟩) ([(⟨7, 0, ([] : List ByteArray), ([a0, a1] : List T25)⟩ : T25)] : List T25).length 1]), (103, .agg #[.int .i64 9, .int .i64 0, .slice none 0 0, .slice (some ⟨b44, 0, none⟩) ([a0] : List T25).length 1]), (104, .agg #[.int .i64 9, .int .i64 0, .slice none 0 0, .slice (some ⟨b47, 0, none⟩) ([a1] : List T25).length 1])]) (by kernel_rfl) (NoPanic.then (NoPanic.body)) (Under.subl (by repeat first | exact List.nil_sublist _ | apply List.Sublist.cons_cons | apply List.Sublist.cons)) hS (by kernel_rfl) ?_
              exact WA.pickJ [5, 102, 103, 104] (J31 b196) (by kernel_rfl)
            · refine WO.op (b' := 57) (by kernel_rfl) (op := .buildSlice 23 2 #[(0, (.tmp 103)), (1, (.tmp 104))]) (ty := 23) (d := some 105) (g := none) (by kernel_rfl) (by kernel_rfl) (by kernel_rfl) (Does.new (o := .cells #[.int .i64 9, .int .i64 0, .slice none 0 0, .slice (some ⟨b44, 0, none⟩) ([a0] : List T25).length 1, .int .i64 9, .int .i64 0, .slice none 0 0, .slice (some ⟨b47, 0, none⟩) ([a1] : List T25).length 1] 25 (0, 0)) (v := fun r => .slice (some ⟨r, 0, none⟩) 2 2) (fun r => by kernel_rfl)) ?_
              rintro _ _ _ ⟨b196, rfl, rfl, rfl⟩
              refine ⟨_, _, Under.refl, (Under.subl (by repeat first | exact List.nil_sublist _ | apply List.Sublist.cons_cons | apply List.Sublist.cons)), ?_⟩
              refine WA.pure [6] [5, 100, 106] (m := 6) (b' := 121) (L' := [(5, .pointer (some ⟨b3, 0, none⟩)), (100, .agg #[.int .i64 7, .int .i64 0, .slice none 0 0, .slice (some ⟨b52, 0, none⟩) ([a0, a1] : List T25).length 2]), (106, .agg #[.int .i64 8, .int .i64 0, .slice none 0 0, .slice (some ⟨b196, 0, none⟩) ([(⟨9, 0, ([] : List ByteArray), ([a0] : List T25)⟩ : T25), (⟨9, 0, ([] : List ByteArray), ([a1] : List T25)⟩ : T25)] : List T25).length 2])]) (by kernel_rfl) (NoPanic.then (NoPanic.body)) (Under.subl (by repeat first | exact List.nil_sublist _ | apply List.Sublist.cons_cons | apply List.Sublist.cons)) hS (by kernel_rfl) ?_
              exact WA.pickJ [5, 100, 106] (J121 b196) (by kernel_rfl)
            · refine WO.op (b' := 153) (by kernel_rfl) (op := .alloc 25) (ty := 0) (d := some 13) (g := none) (by kernel_rfl) (by kernel_rfl) (by kernel_rfl) (Does.new (o := .cells #[.int .i64 0, .int .i64 0, .slice none 0 0, .slice none 0 0] 25 (0, 0)) (v := fun r => .pointer (some ⟨r, 0, none⟩)) (fun r => by kernel_rfl)) ?_
              rintro _ _ _ ⟨b196, rfl, rfl, rfl⟩
              refine ⟨_, _, Under.refl, (Under.subl (by repeat first | exact List.nil_sublist _ | apply List.Sublist.cons_cons | apply List.Sublist.cons)), ?_⟩
              exact WA.pickJ [5, 13, 100, 103, 104] (J153 b196) (by kernel_rfl)
            · refine WO.op (b' := 281) (by kernel_rfl) (op := .alloc 25) (ty := 0) (d := some 14) (g := none) (by kernel_rfl) (by kernel_rfl) (by kernel_rfl) (Does.new (o := .cells #[.int .i64 0, .int .i64 0, .slice none 0 0, .slice none 0 0] 25 (0, 0)) (v := fun r => .pointer (some ⟨r, 0, none⟩)) (fun r => by kernel_rfl)) ?_
              rintro _ _ _ ⟨b196, rfl, rfl, rfl⟩
              refine ⟨_, _, Under.refl, (Under.subl (by repeat first | exact List.nil_sublist _ | apply List.Sublist.cons_cons | apply List.Sublist.cons)), ?_⟩
              exact WA.pickJ [5, 14, 100, 103, 104] (J281 b196) (by kernel_rfl)
      refine WA.junc4 2 255 (fun b50 b51 b44 b47 => [(3, .pointer (some ⟨b1, 0, none⟩)), (4, .pointer (some ⟨b2, 0, none⟩)), (5, .pointer (some ⟨b3, 0, none⟩)), (7, .bool t36), (8, .bool t40), (9, .pointer (some ⟨b50, 0, none⟩)), (10, .pointer (some ⟨b51, 0, none⟩)), (51, .agg #[.int .i64 9, .int .i64 0, .slice none 0 0, .slice (some ⟨b44, 0, none⟩) ([a0] : List T25).length 1]), (54, .agg #[.int .i64 9, .int .i64 0, .slice none 0 0, .slice (some ⟨b47, 0, none⟩) ([a1] : List T25).length 1])]) (fun b50 b51 b44 b47 => [(b51, .cells #[.int .i64 0, .int .i64 0, .slice none 0 0, .slice none 0 0] 25 (0, 0))] :: [(b50, .cells #[.int .i64 0, .int .i64 0, .slice none 0 0, .slice none 0 0] 25 (0, 0))] :: [(b47, .cells #[.int .i64 a1.f0, .int .i64 a1.f1, .slice Aa1_f2 a1.f2.length ca1_f2, .slice Aa1_f3 a1.f3.length ca1_f3] 25 (0, 0))] :: [(b44, .cells #[.int .i64 a0.f0, .int .i64 a0.f1, .slice Aa0_f2 a0.f2.length ca0_f2, .slice Aa0_f3 a0.f3.length ca0_f3] 25 (0, 0))] :: [(b3, .cells #[.int .i64 a2.f0, .int .i64 a2.f1, .int .i64 a2.f2, .int .i64 a2.f3, .string a2.f4] 31 (0, 0))] :: [(b2, .cells #[.int .i64 a1.f0, .int .i64 a1.f1, .slice Aa1_f2 a1.f2.length ca1_f2, .slice Aa1_f3 a1.f3.length ca1_f3] 25 (0, 0))] :: [(b1, .cells #[.int .i64 a0.f0, .int .i64 a0.f1, .slice Aa0_f2 a0.f2.length ca0_f2, .slice Aa0_f3 a0.f3.length ca0_f3] 25 (0, 0))] :: Γ) (fun b50 b51 b44 b47 => ?_) (fun J255 => ?_)
      · refine WA.op (i := 8) (m := 1) (b' := 511) (by kernel_rfl) hS (by kernel_rfl) (op := .store 25 (.tmp 9) (.tmp 51)) (ty := 0) (d := none) (g := none) (by kernel_rfl) (by kernel_rfl) (by kernel_rfl) (Does.store_box (i := 1) (b := b50) (o := 0) (v := .agg #[.int .i64 9, .int .i64 0, .slice none 0 0, .slice (some ⟨b44, 0, none⟩) ([a0] : List T25).length 1]) (by rfl) sz25 (by kernel_rfl) (by kernel_rfl) (by kernel_rfl) (Free.zero _) (Nat.le_of_ble_eq_true rfl) (cells' := #[.int .i64 9, .int .i64 0, .slice none 0 0, .slice (some ⟨b44, 0, none⟩) ([a0] : List T25).length 1]) (by kernel_rfl)) ?_
        rintro _ _ _ ⟨rfl, rfl, rfl⟩
        refine ⟨_, _, Under.refl, (Under.subl (by repeat first | exact List.nil_sublist _ | apply List.Sublist.cons_cons | apply List.Sublist.cons)), ?_⟩
        exact WA.pickJ [3, 4, 5, 7, 8, 9, 10, 54] (J511 b50 b51 b47 b44) (by kernel_rfl)
      refine WA.junc3 3 127 (fun b50 b44 b47 => [(3, .pointer (some ⟨b1, 0, none⟩)), (4, .pointer (some ⟨b2, 0, none⟩)), (5, .pointer (some ⟨b3, 0, none⟩)), (7, .bool t36), (8, .bool t40), (9, .pointer (some ⟨b50, 0, none⟩)), (51, .agg #[.int .i64 9, .int .i64 0, .slice none 0 0, .slice (some ⟨b44, 0, none⟩) ([a0] : List T25).length 1]), (54, .agg #[.int .i64 9, .int .i64 0, .slice none 0 0, .slice (some ⟨b47, 0, none⟩) ([a1] : List T25).length 1])]) (fun b50 b44 b47 => [(b50, .cells #[.int .i64 0, .int .i64 0, .slice none 0 0, .slice none 0 0] 25 (0, 0))] :: [(b47, .cells #[.int .i64 a1.f0, .int .i64 a1.f1, .slice Aa1_f2 a1.f2.length ca1_f2, .slice Aa1_f3 a1.f3.length ca1_f3] 25 (0, 0))] :: [(b44, .cells #[.int .i64 a0.f0, .int .i64 a0.f1, .slice Aa0_f2 a0.f2.length ca0_f2, .slice Aa0_f3 a0.f3.length ca0_f3] 25 (0, 0))] :: [(b3, .cells #[.int .i64 a2.f0, .int .i64 a2.f1, .int .i64 a2.f2, .int .i64 a2.f3, .string a2.f4] 31 (0, 0))] :: [(b2, .cells #[.int .i64 a1.f0, .int .i64 a1.f1, .slice Aa1_f2 a1.f2.length ca1_f2, .slice Aa1_f3 a1.f3.length ca1_f3] 25 (0, 0))] :: [(b1, .cells #[.int .i64 a0.f0, .int .i64 a0.f1, .slice Aa0_f2 a0.f2.length ca0_f2, .slice Aa0_f3 a0.f3.length ca0_f3] 25 (0, 0))] :: Γ) (fun b50 b44 b47 => ?_) (fun J127 => ?_)
      · refine WA.op (i := 7) (m := 2) (b' := 255) (by kernel_rfl) hS (by kernel_rfl) (op := .alloc 25) (ty := 0) (d := some 10) (g := none) (by kernel_rfl) (by kernel_rfl) (by kernel_rfl) (Does.new (o := .cells #[.int .i64 0, .int .i64 0, .slice none 0 0, .slice none 0 0] 25 (0, 0)) (v := fun r => .pointer (some ⟨r, 0, none⟩)) (fun r => by kernel_rfl)) ?_
        rintro _ _ _ ⟨b51, rfl, rfl, rfl⟩
        refine ⟨_, _, Under.refl, (Under.subl (by repeat first | exact List.nil_sublist _ | apply List.Sublist.cons_cons | apply List.Sublist.cons)), ?_⟩
        exact WA.pickJ [3, 4, 5, 7, 8, 9, 10, 51, 54] (J255 b50 b51 b44 b47) (by kernel_rfl)
      refine WA.junc3 3 191 (fun b50 b44 b47 => [(3, .pointer (some ⟨b1, 0, none⟩)), (4, .pointer (some ⟨b2, 0, none⟩)), (5, .pointer (some ⟨b3, 0, none⟩)), (7, .bool t36), (8, .bool t40), (10, .pointer (some ⟨b50, 0, none⟩)), (51, .agg #[.int .i64 9, .int .i64 0, .slice none 0 0, .slice (some ⟨b44, 0, none⟩) ([a0] : List T25).length 1]), (54, .agg #[.int .i64 9, .int .i64 0, .slice none 0 0, .slice (some ⟨b47, 0, none⟩) ([a1] : List T25).length 1])]) (fun b50 b44 b47 => [(b50, .cells #[.int .i64 0, .int .i64 0, .slice none 0 0, .slice none 0 0] 25 (0, 0))] :: [(b47, .cells #[.int .i64 a1.f0, .int .i64 a1.f1, .slice Aa1_f2 a1.f2.length ca1_f2, .slice Aa1_f3 a1.f3.length ca1_f3] 25 (0, 0))] :: [(b44, .cells #[.int .i64 a0.f0, .int .i64 a0.f1, .slice Aa0_f2 a0.f2.length ca0_f2, .slice Aa0_f3 a0.f3.length ca0_f3] 25 (0, 0))] :: [(b3, .cells #[.int .i64 a2.f0, .int .i64 a2.f1, .int .i64 a2.f2, .int .i64 a2.f3, .string a2.f4] 31 (0, 0))] :: [(b2, .cells #[.int .i64 a1.f0, .int .i64 a1.f1, .slice Aa1_f2 a1.f2.length ca1_f2, .slice Aa1_f3 a1.f3.length ca1_f3] 25 (0, 0))] :: [(b1, .cells #[.int .i64 a0.f0, .int .i64 a0.f1, .slice Aa0_f2 a0.f2.length ca0_f2, .slice Aa0_f3 a0.f3.length ca0_f3] 25 (0, 0))] :: Γ) (fun b50 b44 b47 => ?_) (fun J191 => ?_)
      · refine WA.op (i := 6) (m := 2) (b' := 255) (by kernel_rfl) hS (by kernel_rfl) (op := .alloc 25) (ty := 0) (d := some 9) (g := none) (by kernel_rfl) (by kernel_rfl) (by kernel_rfl) (Does.new (o := .cells #[.int .i64 0, .int .i64 0, .slice none 0 0, .slice none 0 0] 25 (0, 0)) (v := fun r => .pointer (some ⟨r, 0, none⟩)) (fun r => by kernel_rfl)) ?_
        rintro _ _ _ ⟨b51, rfl, rfl, rfl⟩
        refine ⟨_, _, Under.refl, (Under.subl (by repeat first | exact List.nil_sublist _ | apply List.Sublist.cons_cons | apply List.Sublist.cons)), ?_⟩
        refine WA.front (i := 6) rfl ?_
        refine WA.front (i := 6) rfl ?_
        refine WA.front (i := 6) rfl ?_
        refine WA.front (i := 6) rfl ?_
        refine WA.front (i := 6) rfl ?_
        refine WA.front (i := 5) rfl ?_
        refine WA.front (i := 6) rfl ?_
        exact WA.pickJ [3, 4, 5, 7, 8, 9, 10, 51, 54] (J255 b51 b50 b44 b47) (by kernel_rfl)
      refine WA.junc2 4 63 (fun b44 b47 => [(3, .pointer (some ⟨b1, 0, none⟩)), (4, .pointer (some ⟨b2, 0, none⟩)), (5, .pointer (some ⟨b3, 0, none⟩)), (7, .bool t36), (8, .bool t40), (51, .agg #[.int .i64 9, .int .i64 0, .slice none 0 0, .slice (some ⟨b44, 0, none⟩) ([a0] : List T25).length 1]), (54, .agg #[.int .i64 9, .int .i64 0, .slice none 0 0, .slice (some ⟨b47, 0, none⟩) ([a1] : List T25).length 1])]) (fun b44 b47 => [(b47, .cells #[.int .i64 a1.f0, .int .i64 a1.f1, .slice Aa1_f2 a1.f2.length ca1_f2, .slice Aa1_f3 a1.f3.length ca1_f3] 25 (0, 0))] :: [(b44, .cells #[.int .i64 a0.f0, .int .i64 a0.f1, .slice Aa0_f2 a0.f2.length ca0_f2, .slice Aa0_f3 a0.f3.length ca0_f3] 25 (0, 0))] :: [(b3, .cells #[.int .i64 a2.f0, .int .i64 a2.f1, .int .i64 a2.f2, .int .i64 a2.f3, .string a2.f4] 31 (0, 0))] :: [(b2, .cells #[.int .i64 a1.f0, .int .i64 a1.f1, .slice Aa1_f2 a1.f2.length ca1_f2, .slice Aa1_f3 a1.f3.length ca1_f3] 25 (0, 0))] :: [(b1, .cells #[.int .i64 a0.f0, .int .i64 a0.f1, .slice Aa0_f2 a0.f2.length ca0_f2, .slice Aa0_f3 a0.f3.length ca0_f3] 25 (0, 0))] :: Γ) (fun b44 b47 => ?_) (fun J63 => ?_)
      · refine WA.many 6 [7] (m := 3) (by kernel_rfl) hS (by kernel_rfl) (.cons ?_ (.cons ?_ .nil))
        · refine WO.op (b' := 127) (by kernel_rfl) (op := .alloc 25) (ty := 0) (d := some 9) (g := none) (by kernel_rfl) (by kernel_rfl) (by kernel_rfl) (Does.new (o := .cells #[.int .i64 0, .int .i64 0, .slice none 0 0, .slice none 0 0] 25 (0, 0)) (v := fun r => .pointer (some ⟨r, 0, none⟩)) (fun r => by kernel_rfl)) ?_
          rintro _ _ _ ⟨b50, rfl, rfl, rfl⟩
          refine ⟨_, _, Under.refl, (Under.subl (by repeat first | exact List.nil_sublist _ | apply List.Sublist.cons_cons | apply List.Sublist.cons)), ?_⟩
          exact WA.pickJ [3, 4, 5, 7, 8, 9, 51, 54] (J127 b50 b44 b47) (by kernel_rfl)
        · refine WO.op (b' := 191) (by kernel_rfl) (op := .alloc 25) (ty := 0) (d := some 10) (g := none) (by kernel_rfl) (by kernel_rfl) (by kernel_rfl) (Does.new (o := .cells #[.int .i64 0, .int .i64 0, .slice none 0 0, .slice none 0 0] 25 (0, 0)) (v := fun r => .pointer (some ⟨r, 0, none⟩)) (fun r => by kernel_rfl)) ?_
          rintro _ _ _ ⟨b50, rfl, rfl, rfl⟩
          refine ⟨_, _, Under.refl, (Under.subl (by repeat first | exact List.nil_sublist _ | apply List.Sublist.cons_cons | apply List.Sublist.cons)), ?_⟩
          exact WA.pickJ [3, 4, 5, 7, 8, 10, 51, 54] (J191 b50 b44 b47) (by kernel_rfl)
      refine WA.junc3 3 463 (fun b47 b48 b44 => [(3, .pointer (some ⟨b1, 0, none⟩)), (4, .pointer (some ⟨b2, 0, none⟩)), (5, .pointer (some ⟨b3, 0, none⟩)), (7, .bool t36), (8, .bool t40), (9, .pointer (some ⟨b47, 0, none⟩)), (10, .pointer (some ⟨b48, 0, none⟩)), (52, .agg #[.int .i64 a1.f0, .int .i64 a1.f1, .slice Aa1_f2 a1.f2.length ca1_f2, .slice Aa1_f3 a1.f3.length ca1_f3])]) (fun b47 b48 b44 => [(b48, .cells #[.int .i64 0, .int .i64 0, .slice none 0 0, .slice none 0 0] 25 (0, 0))] :: [(b47, .cells #[.int .i64 9, .int .i64 0, .slice none 0 0, .slice (some ⟨b44, 0, none⟩) ([a0] : List T25).length 1] 25 (0, 0))] :: [(b44, .cells #[.int .i64 a0.f0, .int .i64 a0.f1, .slice Aa0_f2 a0.f2.length ca0_f2, .slice Aa0_f3 a0.f3.length ca0_f3] 25 (0, 0))] :: [(b3, .cells #[.int .i64 a2.f0, .int .i64 a2.f1, .int .i64 a2.f2, .int .i64 a2.f3, .string a2.f4] 31 (0, 0))] :: [(b2, .cells #[.int .i64 a1.f0, .int .i64 a1.f1, .slice Aa1_f2 a1.f2.length ca1_f2, .slice Aa1_f3 a1.f3.length ca1_f3] 25 (0, 0))] :: [(b1, .cells #[.int .i64 a0.f0, .int .i64 a0.f1, .slice Aa0_f2 a0.f2.length ca0_f2, .slice Aa0_f3 a0.f3.length ca0_f3] 25 (0, 0))] :: Γ) (fun b47 b48 b44 => ?_) (fun J463 => ?_)
      · refine WA.op (i := 4) (m := 2) (b' := 479) (by kernel_rfl) hS (by kernel_rfl) (op := .buildSlice 23 1 #[(0, (.tmp 52))]) (ty := 23) (d := some 53) (g := none) (by kernel_rfl) (by kernel_rfl) (by kernel_rfl) (Does.new (o := .cells #[.int .i64 a1.f0, .int .i64 a1.f1, .slice Aa1_f2 a1.f2.length ca1_f2, .slice Aa1_f3 a1.f3.length ca1_f3] 25 (0, 0)) (v := fun r => .slice (some ⟨r, 0, none⟩) 1 1) (fun r => by kernel_rfl)) ?_
        rintro _ _ _ ⟨b49, rfl, rfl, rfl⟩
        refine ⟨_, _, Under.refl, (Under.subl (by repeat first | exact List.nil_sublist _ | apply List.Sublist.cons_cons | apply List.Sublist.cons)), ?_⟩
        refine WA.pure [5] [3, 4, 5, 7, 8, 9, 10, 54] (m := 1) (b' := 511) (L' := [(3, .pointer (some ⟨b1, 0, none⟩)), (4, .pointer (some ⟨b2, 0, none⟩)), (5, .pointer (some ⟨b3, 0, none⟩)), (7, .bool t36), (8, .bool t40), (9, .pointer (some ⟨b47, 0, none⟩)), (10, .pointer (some ⟨b48, 0, none⟩)), (54, .agg #[.int .i64 9, .int .i64 0, .slice none 0 0, .slice (some ⟨b49, 0, none⟩) ([a1] : List T25).length 1])]) (by kernel_rfl) (NoPanic.then (NoPanic.body)) (Under.subl (by repeat first | exact List.nil_sublist _ | apply List.Sublist.cons_cons | apply List.Sublist.cons)) hS (by kernel_rfl) ?_
        refine WA.front (i := 6) rfl ?_
        refine WA.front (i := 6) rfl ?_
        refine WA.front (i := 6) rfl ?_
        refine WA.front (i := 6) rfl ?_
        refine WA.front (i := 4) rfl ?_
        refine WA.front (i := 6) rfl ?_
        refine WA.front (i := 6) rfl ?_
        exact WA.pickJ [3, 4, 5, 7, 8, 9, 10, 54] (J511 b47 b48 b49 b44) (by kernel_rfl)
      refine WA.junc3 4 207 (fun b47 b48 b44 => [(3, .pointer (some ⟨b1, 0, none⟩)), (4, .pointer (some ⟨b2, 0, none⟩)), (5, .pointer (some ⟨b3, 0, none⟩)), (7, .bool t36), (8, .bool t40), (9, .pointer (some ⟨b47, 0, none⟩)), (10, .pointer (some ⟨b48, 0, none⟩)), (51, .agg #[.int .i64 9, .int .i64 0, .slice none 0 0, .slice (some ⟨b44, 0, none⟩) ([a0] : List T25).length 1]), (52, .agg #[.int .i64 a1.f0, .int .i64 a1.f1, .slice Aa1_f2 a1.f2.length ca1_f2, .slice Aa1_f3 a1.f3.length ca1_f3])]) (fun b47 b48 b44 => [(b48, .cells #[.int .i64 0, .int .i64 0, .slice none 0 0, .slice none 0 0] 25 (0, 0))] :: [(b47, .cells #[.int .i64 0, .int .i64 0, .slice none 0 0, .slice none 0 0] 25 (0, 0))] :: [(b44, .cells #[.int .i64 a0.f0, .int .i64 a0.f1, .slice Aa0_f2 a0.f2.length ca0_f2, .slice Aa0_f3 a0.f3.length ca0_f3] 25 (0, 0))] :: [(b3, .cells #[.int .i64 a2.f0, .int .i64 a2.f1, .int .i64 a2.f2, .int .i64 a2.f3, .string a2.f4] 31 (0, 0))] :: [(b2, .cells #[.int .i64 a1.f0, .int .i64 a1.f1, .slice Aa1_f2 a1.f2.length ca1_f2, .slice Aa1_f3 a1.f3.length ca1_f3] 25 (0, 0))] :: [(b1, .cells #[.int .i64 a0.f0, .int .i64 a0.f1, .slice Aa0_f2 a0.f2.length ca0_f2, .slice Aa0_f3 a0.f3.length ca0_f3] 25 (0, 0))] :: Γ) (fun b47 b48 b44 => ?_) (fun J207 => ?_)
      · refine WA.many 4 [8] (m := 3) (by kernel_rfl) hS (by kernel_rfl) (.cons ?_ (.cons ?_ .nil))
        · refine WO.op (b' := 223) (by kernel_rfl) (op := .buildSlice 23 1 #[(0, (.tmp 52))]) (ty := 23) (d := some 53) (g := none) (by kernel_rfl) (by kernel_rfl) (by kernel_rfl) (Does.new (o := .cells #[.int .i64 a1.f0, .int .i64 a1.f1, .slice Aa1_f2 a1.f2.length ca1_f2, .slice Aa1_f3 a1.f3.length ca1_f3] 25 (0, 0)) (v := fun r => .slice (some ⟨r, 0, none⟩) 1 1) (fun r => by kernel_rfl)) ?_
          rintro _ _ _ ⟨b49, rfl, rfl, rfl⟩
          refine ⟨_, _, Under.refl, (Under.subl (by repeat first | exact List.nil_sublist _ | apply List.Sublist.cons_cons | apply List.Sublist.cons)), ?_⟩
          refine WA.pure [5] [3, 4, 5, 7, 8, 9, 10, 51, 54] (m := 2) (b' := 255) (L' := [(3, .pointer (some ⟨b1, 0, none⟩)), (4, .pointer (some ⟨b2, 0, none⟩)), (5, .pointer (some ⟨b3, 0, none⟩)), (7, .bool t36), (8, .bool t40), (9, .pointer (some ⟨b47, 0, none⟩)), (10, .pointer (some ⟨b48, 0, none⟩)), (51, .agg #[.int .i64 9, .int .i64 0, .slice none 0 0, .slice (some ⟨b44, 0, none⟩) ([a0] : List T25).length 1]), (54, .agg #[.int .i64 9, .int .i64 0, .slice none 0 0, .slice (some ⟨b49, 0, none⟩) ([a1] : List T25).length 1])]) (by kernel_rfl) (NoPanic.then (NoPanic.body)) (Under.subl (by repeat first | exact List.nil_sublist _ | apply List.Sublist.cons_cons | apply List.Sublist.cons)) hS (by kernel_rfl) ?_
          refine WA.front (i := 6) rfl ?_
          refine WA.front (i := 6) rfl ?_
          refine WA.front (i := 6) rfl ?_
          refine WA.front (i := 6) rfl ?_
          refine WA.front (i := 4) rfl ?_
          refine WA.front (i := 6) rfl ?_
          refine WA.front (i := 6) rfl ?_
          exact WA.pickJ [3, 4, 5, 7, 8, 9, 10, 51, 54] (J255 b47 b48 b44 b49) (by kernel_rfl)
        · refine WO.op (b' := 463) (by kernel_rfl) (op := .store 25 (.tmp 9) (.tmp 51)) (ty := 0) (d := none) (g := none) (by kernel_rfl) (by kernel_rfl) (by kernel_rfl) (Does.store_box (i := 1) (b := b47) (o := 0) (v := .agg #[.int .i64 9, .int .i64 0, .slice none 0 0, .slice (some ⟨b44, 0, none⟩) ([a0] : List T25).length 1]) (by rfl) sz25 (by kernel_rfl) (by kernel_rfl) (by kernel_rfl) (Free.zero _) (Nat.le_of_ble_eq_true rfl) (cells' := #[.int .i64 9, .int .i64 0, .slice none 0 0, .slice (some ⟨b44, 0, none⟩) ([a0] : List T25).length 1]) (by kernel_rfl)) ?_
          rintro _ _ _ ⟨rfl, rfl, rfl⟩
          refine ⟨_, _, Under.refl, (Under.subl (by repeat first | exact List.nil_sublist _ | apply List.Sublist.cons_cons | apply List.Sublist.cons)), ?_⟩
          exact WA.pickJ [3, 4, 5, 7, 8, 9, 10, 52] (J463 b47 b48 b44) (by kernel_rfl)
      refine WA.junc2 5 79 (fun b47 b44 => [(3, .pointer (some ⟨b1, 0, none⟩)), (4, .pointer (some ⟨b2, 0, none⟩)), (5, .pointer (some ⟨b3, 0, none⟩)), (7, .bool t36), (8, .bool t40), (9, .pointer (some ⟨b47, 0, none⟩)), (51, .agg #[.int .i64 9, .int .i64 0, .slice none 0 0, .slice (some ⟨b44, 0, none⟩) ([a0] : List T25).length 1]), (52, .agg #[.int .i64 a1.f0, .int .i64 a1.f1, .slice Aa1_f2 a1.f2.length ca1_f2, .slice Aa1_f3 a1.f3.length ca1_f3])]) (fun b47 b44 => [(b47, .cells #[.int .i64 0, .int .i64 0, .slice none 0 0, .slice none 0 0] 25 (0, 0))] :: [(b44, .cells #[.int .i64 a0.f0, .int .i64 a0.f1, .slice Aa0_f2 a0.f2.length ca0_f2, .slice Aa0_f3 a0.f3.length ca0_f3] 25 (0, 0))] :: [(b3, .cells #[.int .i64 a2.f0, .int .i64 a2.f1, .int .i64 a2.f2, .int .i64 a2.f3, .string a2.f4] 31 (0, 0))] :: [(b2, .cells #[.int .i64 a1.f0, .int .i64 a1.f1, .slice Aa1_f2 a1.f2.length ca1_f2, .slice Aa1_f3 a1.f3.length ca1_f3] 25 (0, 0))] :: [(b1, .cells #[.int .i64 a0.f0, .int .i64 a0.f1, .slice Aa0_f2 a0.f2.length ca0_f2, .slice Aa0_f3 a0.f3.length ca0_f3] 25 (0, 0))] :: Γ) (fun b47 b44 => ?_) (fun J79 => ?_)
      · refine WA.many 4 [7] (m := 4) (by kernel_rfl) hS (by kernel_rfl) (.cons ?_ (.cons ?_ .nil))
        · refine WO.op (b' := 95) (by kernel_rfl) (op := .buildSlice 23 1 #[(0, (.tmp 52))]) (ty := 23) (d := some 53) (g := none) (by kernel_rfl) (by kernel_rfl) (by kernel_rfl) (Does.new (o := .cells #[.int .i64 a1.f0, .int .i64 a1.f1, .slice Aa1_f2 a1.f2.length ca1_f2, .slice Aa1_f3 a1.f3.length ca1_f3] 25 (0, 0)) (v := fun r => .slice (some ⟨r, 0, none⟩) 1 1) (fun r => by kernel_rfl)) ?_
          rintro _ _ _ ⟨b48, rfl, rfl, rfl⟩
          refine ⟨_, _, Under.refl, (Under.subl (by repeat first | exact List.nil_sublist _ | apply List.Sublist.cons_cons | apply List.Sublist.cons)), ?_⟩
          refine WA.pure [5] [3, 4, 5, 7, 8, 9, 51, 54] (m := 3) (b' := 127) (L' := [(3, .pointer (some ⟨b1, 0, none⟩)), (4, .pointer (some ⟨b2, 0, none⟩)), (5, .pointer (some ⟨b3, 0, none⟩)), (7, .bool t36), (8, .bool t40), (9, .pointer (some ⟨b47, 0, none⟩)), (51, .agg #[.int .i64 9, .int .i64 0, .slice none 0 0, .slice (some ⟨b44, 0, none⟩) ([a0] : List T25).length 1]), (54, .agg #[.int .i64 9, .int .i64 0, .slice none 0 0, .slice (some ⟨b48, 0, none⟩) ([a1] : List T25).length 1])]) (by kernel_rfl) (NoPanic.then (NoPanic.body)) (Under.subl (by repeat first | exact List.nil_sublist _ | apply List.Sublist.cons_cons | apply List.Sublist.cons)) hS (by kernel_rfl) ?_
          refine WA.front (i := 5) rfl ?_
          refine WA.front (i := 5) rfl ?_
          refine WA.front (i := 5) rfl ?_
          refine WA.front (i := 5) rfl ?_
          refine WA.front (i := 4) rfl ?_
          refine WA.front (i := 5) rfl ?_
          exact WA.pickJ [3, 4, 5, 7, 8, 9, 51, 54] (J127 b47 b44 b48) (by kernel_rfl)
        · refine WO.op (b' := 207) (by kernel_rfl) (op := .alloc 25) (ty := 0) (d := some 10) (g := none) (by kernel_rfl) (by kernel_rfl) (by kernel_rfl) (Does.new (o := .cells #[.int .i64 0, .int .i64 0, .slice none 0 0, .slice none 0 0] 25 (0, 0)) (v := fun r => .pointer (some ⟨r, 0, none⟩)) (fun r => by kernel_rfl)) ?_
          rintro _ _ _ ⟨b48, rfl, rfl, rfl⟩
          refine ⟨_, _, Under.refl, (Under.subl (by repeat first | exact List.nil_sublist _ | apply List.Sublist.cons_cons | apply List.Sublist.cons)), ?_⟩
          exact WA.pickJ [3, 4, 5, 7, 8, 9, 10, 51, 52] (J207 b47 b48 b44) (by kernel_rfl)
      refine WA.junc2 5 143 (fun b47 b44 => [(3, .pointer (some ⟨b1, 0, none⟩)), (4, .pointer (some ⟨b2, 0, none⟩)), (5, .pointer (some ⟨b3, 0, none⟩)), (7, .bool t36), (8, .bool t40), (10, .pointer (some ⟨b47, 0, none⟩)), (51, .agg #[.int .i64 9, .int .i64 0, .slice none 0 0, .slice (some ⟨b44, 0, none⟩) ([a0] : List T25).length 1]), (52, .agg #[.int .i64 a1.f0, .int .i64 a1.f1, .slice Aa1_f2 a1.f2.length ca1_f2, .slice Aa1_f3 a1.f3.length ca1_f3])]) (fun b47 b44 => [(b47, .cells #[.int .i64 0, .int .i64 0, .slice none 0 0, .slice none 0 0] 25 (0, 0))] :: [(b44, .cells #[.int .i64 a0.f0, .int .i64 a0.f1, .slice Aa0_f2 a0.f2.length ca0_f2, .slice Aa0_f3 a0.f3.length ca0_f3] 25 (0, 0))] :: [(b3, .cells #[.int .i64 a2.f0, .int .i64 a2.f1, .int .i64 a2.f2, .int .i64 a2.f3, .string a2.f4] 31 (0, 0))] :: [(b2, .cells #[.int .i64 a1.f0, .int .i64 a1.f1, .slice Aa1_f2 a1.f2.length ca1_f2, .slice Aa1_f3 a1.f3.length ca1_f3] 25 (0, 0))] :: [(b1, .cells #[.int .i64 a0.f0, .int .i64 a0.f1, .slice Aa0_f2 a0.f2.length ca0_f2, .slice Aa0_f3 a0.f3.length ca0_f3] 25 (0, 0))] :: Γ) (fun b47 b44 => ?_) (fun J143 => ?_)
      · refine WA.many 4 [6] (m := 4) (by kernel_rfl) hS (by kernel_rfl) (.cons ?_ (.cons ?_ .nil))
        · refine WO.op (b' := 159) (by kernel_rfl) (op := .buildSlice 23 1 #[(0, (.tmp 52))]) (ty := 23) (d := some 53) (g := none) (by kernel_rfl) (by kernel_rfl) (by kernel_rfl) (Does.new (o := .cells #[.int .i64 a1.f0, .int .i64 a1.f1, .slice Aa1_f2 a1.f2.length ca1_f2, .slice Aa1_f3 a1.f3.length ca1_f3] 25 (0, 0)) (v := fun r => .slice (some ⟨r, 0, none⟩) 1 1) (fun r => by kernel_rfl)) ?_
          rintro _ _ _ ⟨b48, rfl, rfl, rfl⟩
          refine ⟨_, _, Under.refl, (Under.subl (by repeat first | exact List.nil_sublist _ | apply List.Sublist.cons_cons | apply List.Sublist.cons)), ?_⟩
          refine WA.pure [5] [3, 4, 5, 7, 8, 10, 51, 54] (m := 3) (b' := 191) (L' := [(3, .pointer (some ⟨b1, 0, none⟩)), (4, .pointer (some ⟨b2, 0, none⟩)), (5, .pointer (some ⟨b3, 0, none⟩)), (7, .bool t36), (8, .bool t40), (10, .pointer (some ⟨b47, 0, none⟩)), (51, .agg #[.int .i64 9, .int .i64 0, .slice none 0 0, .slice (some ⟨b44, 0, none⟩) ([a0] : List T25).length 1]), (54, .agg #[.int .i64 9, .int .i64 0, .slice none 0 0, .slice (some ⟨b48, 0, none⟩) ([a1] : List T25).length 1])]) (by kernel_rfl) (NoPanic.then (NoPanic.body)) (Under.subl (by repeat first | exact List.nil_sublist _ | apply List.Sublist.cons_cons | apply List.Sublist.cons)) hS (by kernel_rfl) ?_
          refine WA.front (i := 5) rfl ?_
          refine WA.front (i := 5) rfl ?_
          refine WA.front (i := 5) rfl ?_
          refine WA.front (i := 5) rfl ?_
          refine WA.front (i := 4) rfl ?_
          refine WA.front (i := 5) rfl ?_
          exact WA.pickJ [3, 4, 5, 7, 8, 10, 51, 54] (J191 b47 b44 b48) (by kernel_rfl)
        · refine WO.op (b' := 207) (by kernel_rfl) (op := .alloc 25) (ty := 0) (d := some 9) (g := none) (by kernel_rfl) (by kernel_rfl) (by kernel_rfl) (Does.new (o := .cells #[.int .i64 0, .int .i64 0, .slice none 0 0, .slice none 0 0] 25 (0, 0)) (v := fun r => .pointer (some ⟨r, 0, none⟩)) (fun r => by kernel_rfl)) ?_
          rintro _ _ _ ⟨b48, rfl, rfl, rfl⟩
          refine ⟨_, _, Under.refl, (Under.subl (by repeat first | exact List.nil_sublist _ | apply List.Sublist.cons_cons | apply List.Sublist.cons)), ?_⟩
          refine WA.front (i := 5) rfl ?_
          refine WA.front (i := 5) rfl ?_
          refine WA.front (i := 5) rfl ?_
          refine WA.front (i := 5) rfl ?_
          refine WA.front (i := 4) rfl ?_
          refine WA.front (i := 5) rfl ?_
          exact WA.pickJ [3, 4, 5, 7, 8, 9, 10, 51, 52] (J207 b48 b47 b44) (by kernel_rfl)
      refine WA.junc1 6 15 (fun b44 => [(3, .pointer (some ⟨b1, 0, none⟩)), (4, .pointer (some ⟨b2, 0, none⟩)), (5, .pointer (some ⟨b3, 0, none⟩)), (7, .bool t36), (8, .bool t40), (51, .agg #[.int .i64 9, .int .i64 0, .slice none 0 0, .slice (some ⟨b44, 0, none⟩) ([a0] : List T25).length 1]), (52, .agg #[.int .i64 a1.f0, .int .i64 a1.f1, .slice Aa1_f2 a1.f2.length ca1_f2, .slice Aa1_f3 a1.f3.length ca1_f3])]) (fun b44 => [(b44, .cells #[.int .i64 a0.f0, .int .i64 a0.f1, .slice Aa0_f2 a0.f2.length ca0_f2, .slice Aa0_f3 a0.f3.length ca0_f3] 25 (0, 0))] :: [(b3, .cells #[.int .i64 a2.f0, .int .i64 a2.f1, .int .i64 a2.f2, .int .i64 a2.f3, .string a2.f4] 31 (0, 0))] :: [(b2, .cells #[.int .i64 a1.f0, .int .i64 a1.f1, .slice Aa1_f2 a1.f2.length ca1_f2, .slice Aa1_f3 a1.f3.length ca1_f3] 25 (0, 0))] :: [(b1, .cells #[.int .i64 a0.f0, .int .i64 a0.f1, .slice Aa0_f2 a0.f2.length ca0_f2, .slice Aa0_f3 a0.f3.length ca0_f3] 25 (0, 0))] :: Γ) (fun b44 => ?_) (fun J15 => ?_)
      · refine WA.many 4 [6, 7] (m := 5) (by kernel_rfl) hS (by kernel_rfl) (.cons ?_ (.cons ?_ (.cons ?_ .nil)))
        · refine WO.op (b' := 31) (by kernel_rfl) (op := .buildSlice 23 1 #[(0, (.tmp 52))]) (ty := 23) (d := some 53) (g := none) (by kernel_rfl) (by kernel_rfl) (by kernel_rfl) (Does.new (o := .cells #[.int .i64 a1.f0, .int .i64 a1.f1, .slice Aa1_f2 a1.f2.length ca1_f2, .slice Aa1_f3 a1.f3.length ca1_f3] 25 (0, 0)) (v := fun r => .slice (some ⟨r, 0, none⟩) 1 1) (fun r => by kernel_rfl)) ?_
          rintro _ _ _ ⟨b47, rfl, rfl, rfl⟩
          refine ⟨_, _, Under.refl, (Under.subl (by repeat first | exact List.nil_sublist _ | apply List.Sublist.cons_cons | apply List.Sublist.cons)), ?_⟩
          refine WA.pure [5] [3, 4, 5, 7, 8, 51, 54] (m := 4) (b' := 63) (L' := [(3, .pointer (some ⟨b1, 0, none⟩)), (4, .pointer (some ⟨b2, 0, none⟩)), (5, .pointer (some ⟨b3, 0, none⟩)), (7, .bool t36), (8, .bool t40), (51, .agg #[.int .i64 9, .int .i64 0, .slice none 0 0, .slice (some ⟨b44, 0, none⟩) ([a0] : List T25).length 1]), (54, .agg #[.int .i64 9, .int .i64 0, .slice none 0 0, .slice (some ⟨b47, 0, none⟩) ([a1] : List T25).length 1])]) (by kernel_rfl) (NoPanic.then (NoPanic.body)) (Under.subl (by repeat first | exact List.nil_sublist _ | apply List.Sublist.cons_cons | apply List.Sublist.cons)) hS (by kernel_rfl) ?_
          exact WA.pickJ [3, 4, 5, 7, 8, 51, 54] (J63 b44 b47) (by kernel_rfl)
        · refine WO.op (b' := 79) (by kernel_rfl) (op := .alloc 25) (ty := 0) (d := some 9) (g := none) (by kernel_rfl) (by kernel_rfl) (by kernel_rfl) (Does.new (o := .cells #[.int .i64 0, .int .i64 0, .slice none 0 0, .slice none 0 0] 25 (0, 0)) (v := fun r => .pointer (some ⟨r, 0, none⟩)) (fun r => by kernel_rfl)) ?_
          rintro _ _ _ ⟨b47, rfl, rfl, rfl⟩
          refine ⟨_, _, Under.refl, (Under.subl (by repeat first | exact List.nil_sublist _ | apply List.Sublist.cons_cons | apply List.Sublist.cons)), ?_⟩
          exact WA.pickJ [3, 4, 5, 7, 8, 9, 51, 52] (J79 b47 b44) (by kernel_rfl)
        · refine WO.op (b' := 143) (by kernel_rfl) (op := .alloc 25) (ty := 0) (d := some 10) (g := none) (by kernel_rfl) (by kernel_rfl) (by kernel_rfl) (Does.new (o := .cells #[.int .i64 0, .int .i64 0, .slice none 0 0, .slice none 0 0] 25 (0, 0)) (v := fun r => .pointer (some ⟨r, 0, none⟩)) (fun r => by kernel_rfl)) ?_
          rintro _ _ _ ⟨b47, rfl, rfl, rfl⟩
          refine ⟨_, _, Under.refl, (Under.subl (by repeat first | exact List.nil_sublist _ | apply List.Sublist.cons_cons | apply List.Sublist.cons)), ?_⟩
          exact WA.pickJ [3, 4, 5, 7, 8, 10, 51, 52] (J143 b47 b44) (by kernel_rfl)
      refine WA.junc3 4 249 (fun b47 b48 b44 => [(3, .pointer (some ⟨b1, 0, none⟩)), (4, .pointer (some ⟨b2, 0, none⟩)), (5, .pointer (some ⟨b3, 0, none⟩)), (7, .bool t36), (8, .bool t40), (9, .pointer (some ⟨b47, 0, none⟩)), (10, .pointer (some ⟨b48, 0, none⟩)), (49, .agg #[.int .i64 a0.f0, .int .i64 a0.f1, .slice Aa0_f2 a0.f2.length ca0_f2, .slice Aa0_f3 a0.f3.length ca0_f3]), (54, .agg #[.int .i64 9, .int .i64 0, .slice none 0 0, .slice (some ⟨b44, 0, none⟩) ([a1] : List T25).length 1])]) (fun b47 b48 b44 => [(b48, .cells #[.int .i64 0, .int .i64 0, .slice none 0 0, .slice none 0 0] 25 (0, 0))] :: [(b47, .cells #[.int .i64 0, .int .i64 0, .slice none 0 0, .slice none 0 0] 25 (0, 0))] :: [(b44, .cells #[.int .i64 a1.f0, .int .i64 a1.f1, .slice Aa1_f2 a1.f2.length ca1_f2, .slice Aa1_f3 a1.f3.length ca1_f3] 25 (0, 0))] :: [(b3, .cells #[.int .i64 a2.f0, .int .i64 a2.f1, .int .i64 a2.f2, .int .i64 a2.f3, .string a2.f4] 31 (0, 0))] :: [(b2, .cells #[.int .i64 a1.f0, .int .i64 a1.f1, .slice Aa1_f2 a1.f2.length ca1_f2, .slice Aa1_f3 a1.f3.length ca1_f3] 25 (0, 0))] :: [(b1, .cells #[.int .i64 a0.f0, .int .i64 a0.f1, .slice Aa0_f2 a0.f2.length ca0_f2, .slice Aa0_f3 a0.f3.length ca0_f3] 25 (0, 0))] :: Γ) (fun b47 b48 b44 => ?_) (fun J249 => ?_)
      · refine WA.op (i := 1) (m := 3) (b' := 251) (by kernel_rfl) hS (by kernel_rfl) (op := .buildSlice 23 1 #[(0, (.tmp 49))]) (ty := 23) (d := some 50) (g := none) (by kernel_rfl) (by kernel_rfl) (by kernel_rfl) (Does.new (o := .cells #[.int .i64 a0.f0, .int .i64 a0.f1, .slice Aa0_f2 a0.f2.length ca0_f2, .slice Aa0_f3 a0.f3.length ca0_f3] 25 (0, 0)) (v := fun r => .slice (some ⟨r, 0, none⟩) 1 1) (fun r => by kernel_rfl)) ?_
        rintro _ _ _ ⟨b49, rfl, rfl, rfl⟩
        refine ⟨_, _, Under.refl, (Under.subl (by repeat first | exact List.nil_sublist _ | apply List.Sublist.cons_cons | apply List.Sublist.cons)), ?_⟩
        refine WA.pure [2] [3, 4, 5, 7, 8, 9, 10, 51, 54] (m := 2) (b' := 255) (L' := [(3, .pointer (some ⟨b1, 0, none⟩)), (4, .pointer (some ⟨b2, 0, none⟩)), (5, .pointer (some ⟨b3, 0, none⟩)), (7, .bool t36), (8, .bool t40), (9, .pointer (some ⟨b47, 0, none⟩)), (10, .pointer (some ⟨b48, 0, none⟩)), (51, .agg #[.int .i64 9, .int .i64 0, .slice none 0 0, .slice (some ⟨b49, 0, none⟩) ([a0] : List T25).length 1]), (54, .agg #[.int .i64 9, .int .i64 0, .slice none 0 0, .slice (some ⟨b44, 0, none⟩) ([a1] : List T25).length 1])]) (by kernel_rfl) (NoPanic.then (NoPanic.body)) (Under.subl (by repeat first | exact List.nil_sublist _ | apply List.Sublist.cons_cons | apply List.Sublist.cons)) hS (by kernel_rfl) ?_
        refine WA.front (i := 6) rfl ?_
        refine WA.front (i := 6) rfl ?_
        refine WA.front (i := 6) rfl ?_
        refine WA.front (i := 3) rfl ?_
        refine WA.front (i := 6) rfl ?_
        refine WA.front (i := 6) rfl ?_
        refine WA.front (i := 6) rfl ?_
        exact WA.pickJ [3, 4, 5, 7, 8, 9, 10, 51, 54] (J255 b47 b48 b49 b44) (by kernel_rfl)
      refine WA.junc2 5 121 (fun b47 b44 => [(3, .pointer (some ⟨b1, 0, none⟩)), (4, .pointer (some ⟨b2, 0, none⟩)), (5, .pointer (some ⟨b3, 0, none⟩)), (7, .bool t36), (8, .bool t40), (9, .pointer (some ⟨b47, 0, none⟩)), (49, .agg #[.int .i64 a0.f0, .int .i64 a0.f1, .slice Aa0_f2 a0.f2.length ca0_f2, .slice Aa0_f3 a0.f3.length ca0_f3]), (54, .agg #[.int .i64 9, .int .i64 0, .slice none 0 0, .slice (some ⟨b44, 0, none⟩) ([a1] : List T25).length 1])]) (fun b47 b44 => [(b47, .cells #[.int .i64 0, .int .i64 0, .slice none 0 0, .slice none 0 0] 25 (0, 0))] :: [(b44, .cells #[.int .i64 a1.f0, .int .i64 a1.f1, .slice Aa1_f2 a1.f2.length ca1_f2, .slice Aa1_f3 a1.f3.length ca1_f3] 25 (0, 0))] :: [(b3, .cells #[.int .i64 a2.f0, .int .i64 a2.f1, .int .i64 a2.f2, .int .i64 a2.f3, .string a2.f4] 31 (0, 0))] :: [(b2, .cells #[.int .i64 a1.f0, .int .i64 a1.f1, .slice Aa1_f2 a1.f2.length ca1_f2, .slice Aa1_f3 a1.f3.length ca1_f3] 25 (0, 0))] :: [(b1, .cells #[.int .i64 a0.f0, .int .i64 a0.f1, .slice Aa0_f2 a0.f2.length ca0_f2, .slice Aa0_f3 a0.f3.length ca0_f3] 25 (0, 0))] :: Γ) (fun b47 b44 => ?_) (fun J121 => ?_)
      · refine WA.many 1 [7] (m := 4) (by kernel_rfl) hS (by kernel_rfl) (.cons ?_ (.cons ?_ .nil))
        · refine WO.op (b' := 123) (by kernel_rfl) (op := .buildSlice 23 1 #[(0, (.tmp 49))]) (ty := 23) (d := some 50) (g := none) (by kernel_rfl) (by kernel_rfl) (by kernel_rfl) (Does.new (o := .cells #[.int .i64 a0.f0, .int .i64 a0.f1, .slice Aa0_f2 a0.f2.length ca0_f2, .slice Aa0_f3 a0.f3.length ca0_f3] 25 (0, 0)) (v := fun r => .slice (some ⟨r, 0, none⟩) 1 1) (fun r => by kernel_rfl)) ?_
          rintro _ _ _ ⟨b48, rfl, rfl, rfl⟩
          refine ⟨_, _, Under.refl, (Under.subl (by repeat first | exact List.nil_sublist _ | apply List.Sublist.cons_cons | apply List.Sublist.cons)), ?_⟩
          refine WA.pure [2] [3, 4, 5, 7, 8, 9, 51, 54] (m := 3) (b' := 127) (L' := [(3, .pointer (some ⟨b1, 0, none⟩)), (4, .pointer (some ⟨b2, 0, none⟩)), (5, .pointer (some ⟨b3, 0, none⟩)), (7, .bool t36), (8, .bool t40), (9, .pointer (some ⟨b47, 0, none⟩)), (51, .agg #[.int .i64 9, .int .i64 0, .slice none 0 0, .slice (some ⟨b48, 0, none⟩) ([a0] : List T25).length 1]), (54, .agg #[.int .i64 9, .int .i64 0, .slice none 0 0, .slice (some ⟨b44, 0, none⟩) ([a1] : List T25).length 1])]) (by kernel_rfl) (NoPanic.then (NoPanic.body)) (Under.subl (by repeat first | exact List.nil_sublist _ | apply List.Sublist.cons_cons | apply List.Sublist.cons)) hS (by kernel_rfl) ?_
          refine WA.front (i := 5) rfl ?_
          refine WA.front (i := 5) rfl ?_
          refine WA.front (i := 5) rfl ?_
          refine WA.front (i := 3) rfl ?_
          refine WA.front (i := 5) rfl ?_
          refine WA.front (i := 5) rfl ?_
          exact WA.pickJ [3, 4, 5, 7, 8, 9, 51, 54] (J127 b47 b48 b44) (by kernel_rfl)
        · refine WO.op (b' := 249) (by kernel_rfl) (op := .alloc 25) (ty := 0) (d := some 10) (g := none) (by kernel_rfl) (by kernel_rfl) (by kernel_rfl) (Does.new (o := .cells #[.int .i64 0, .int .i64 0, .slice none 0 0, .slice none 0 0] 25 (0, 0)) (v := fun r => .pointer (some ⟨r, 0, none⟩)) (fun r => by kernel_rfl)) ?_
          rintro _ _ _ ⟨b48, rfl, rfl, rfl⟩
          refine ⟨_, _, Under.refl, (Under.subl (by repeat first | exact List.nil_sublist _ | apply List.Sublist.cons_cons | apply List.Sublist.cons)), ?_⟩
          exact WA.pickJ [3, 4, 5, 7, 8, 9, 10, 49, 54] (J249 b47 b48 b44) (by kernel_rfl)
      refine WA.junc2 5 185 (fun b47 b44 => [(3, .pointer (some ⟨b1, 0, none⟩)), (4, .pointer (some ⟨b2, 0, none⟩)), (5, .pointer (some ⟨b3, 0, none⟩)), (7, .bool t36), (8, .bool t40), (10, .pointer (some ⟨b47, 0, none⟩)), (49, .agg #[.int .i64 a0.f0, .int .i64 a0.f1, .slice Aa0_f2 a0.f2.length ca0_f2, .slice Aa0_f3 a0.f3.length ca0_f3]), (54, .agg #[.int .i64 9, .int .i64 0, .slice none 0 0, .slice (some ⟨b44, 0, none⟩) ([a1] : List T25).length 1])]) (fun b47 b44 => [(b47, .cells #[.int .i64 0, .int .i64 0, .slice none 0 0, .slice none 0 0] 25 (0, 0))] :: [(b44, .cells #[.int .i64 a1.f0, .int .i64 a1.f1, .slice Aa1_f2 a1.f2.length ca1_f2, .slice Aa1_f3 a1.f3.length ca1_f3] 25 (0, 0))] :: [(b3, .cells #[.int .i64 a2.f0, .int .i64 a2.f1, .int .i64 a2.f2, .int .i64 a2.f3, .string a2.f4] 31 (0, 0))] :: [(b2, .cells #[.int .i64 a1.f0, .int .i64 a1.f1, .slice Aa1_f2 a1.f2.length ca1_f2, .slice Aa1_f3 a1.f3.length ca1_f3] 25 (0, 0))] :: [(b1, .cells #[.int .i64 a0.f0, .int .i64 a0.f1, .slice Aa0_f2 a0.f2.length ca0_f2, .slice Aa0_f3 a0.f3.length ca0_f3] 25 (0, 0))] :: Γ) (fun b47 b44 => ?_) (fun J185 => ?_)
      · refine WA.many 1 [6] (m := 4) (by kernel_rfl) hS (by kernel_rfl) (.cons ?_ (.cons ?_ .nil))
        · refine WO.op (b' := 187) (by kernel_rfl) (op := .buildSlice 23 1 #[(0, (.tmp 49))]) (ty := 23) (d := some 50) (g := none) (by kernel_rfl) (by kernel_rfl) (by kernel_rfl) (Does.new (o := .cells #[.int .i64 a0.f0, .int .i64 a0.f1, .slice Aa0_f2 a0.f2.length ca0_f2, .slice Aa0_f3 a0.f3.length ca0_f3] 25 (0, 0)) (v := fun r => .slice (some ⟨r, 0, none⟩) 1 1) (fun r => by kernel_rfl)) ?_
          rintro _ _ _ ⟨b48, rfl, rfl, rfl⟩
          refine ⟨_, _, Under.refl, (Under.subl (by repeat first | exact List.nil_sublist _ | apply List.Sublist.cons_cons | apply List.Sublist.cons)), ?_⟩
          refine WA.pure [2] [3, 4, 5, 7, 8, 10, 51, 54] (m := 3) (b' := 191) (L' := [(3, .pointer (some ⟨b1, 0, none⟩)), (4, .pointer (some ⟨b2, 0, none⟩)), (5, .pointer (some ⟨b3, 0, none⟩)), (7, .bool t36), (8, .bool t40), (10, .pointer (some ⟨b47, 0, none⟩)), (51, .agg #[.int .i64 9, .int .i64 0, .slice none 0 0, .slice (some ⟨b48, 0, none⟩) ([a0] : List T25).length 1]), (54, .agg #[.int .i64 9, .int .i64 0, .slice none 0 0, .slice (some ⟨b44, 0, none⟩) ([a1] : List T25).length 1])]) (by kernel_rfl) (NoPanic.then (NoPanic.body)) (Under.subl (by repeat first | exact List.nil_sublist _ | apply List.Sublist.cons_cons | apply List.Sublist.cons)) hS (by kernel_rfl) ?_
          refine WA.front (i := 5) rfl ?_
          refine WA.front (i := 5) rfl ?_
          refine WA.front (i := 5) rfl ?_
          refine WA.front (i := 3) rfl ?_
          refine WA.front (i := 5) rfl ?_
          refine WA.front (i := 5) rfl ?_
          exact WA.pickJ [3, 4, 5, 7, 8, 10, 51, 54] (J191 b47 b48 b44) (by kernel_rfl)
        · refine WO.op (b' := 249) (by kernel_rfl) (op := .alloc 25) (ty := 0) (d := some 9) (g := none) (by kernel_rfl) (by kernel_rfl) (by kernel_rfl) (Does.new (o := .cells #[.int .i64 0, .int .i64 0, .slice none 0 0, .slice none 0 0] 25 (0, 0)) (v := fun r => .pointer (some ⟨r, 0, none⟩)) (fun r => by kernel_rfl)) ?_
          rintro _ _ _ ⟨b48, rfl, rfl, rfl⟩
          refine ⟨_, _, Under.refl, (Under.subl (by repeat first | exact List.nil_sublist _ | apply List.Sublist.cons_cons | apply List.Sublist.cons)), ?_⟩
          refine WA.front (i := 5) rfl ?_
          refine WA.front (i := 5) rfl ?_
          refine WA.front (i := 5) rfl ?_
          refine WA.front (i := 5) rfl ?_
          refine WA.front (i := 4) rfl ?_
          refine WA.front (i := 5) rfl ?_
          exact WA.pickJ [3, 4, 5, 7, 8, 9, 10, 49, 54] (J249 b48 b47 b44) (by kernel_rfl)
      refine WA.junc1 6 57 (fun b44 => [(3, .pointer (some ⟨b1, 0, none⟩)), (4, .pointer (some ⟨b2, 0, none⟩)), (5, .pointer (some ⟨b3, 0, none⟩)), (7, .bool t36), (8, .bool t40), (49, .agg #[.int .i64 a0.f0, .int .i64 a0.f1, .slice Aa0_f2 a0.f2.length ca0_f2, .slice Aa0_f3 a0.f3.length ca0_f3]), (54, .agg #[.int .i64 9, .int .i64 0, .slice none 0 0, .slice (some ⟨b44, 0, none⟩) ([a1] : List T25).length 1])]) (fun b44 => [(b44, .cells #[.int .i64 a1.f0, .int .i64 a1.f1, .slice Aa1_f2 a1.f2.length ca1_f2, .slice Aa1_f3 a1.f3.length ca1_f3] 25 (0, 0))] :: [(b3, .cells #[.int .i64 a2.f0, .int .i64 a2.f1, .int .i64 a2.f2, .int .i64 a2.f3, .string a2.f4] 31 (0, 0))] :: [(b2, .cells #[.int .i64 a1.f0, .int .i64 a1.f1, .slice Aa1_f2 a1.f2.length ca1_f2, .slice Aa1_f3 a1.f3.length ca1_f3] 25 (0, 0))] :: [(b1, .cells #[.int .i64 a0.f0, .int .i64 a0.f1, .slice Aa0_f2 a0.f2.length ca0_f2, .slice Aa0_f3 a0.f3.length ca0_f3] 25 (0, 0))] :: Γ) (fun b44 => ?_) (fun J57 => ?_)
      · refine WA.many 1 [6, 7] (m := 5) (by kernel_rfl) hS (by kernel_rfl) (.cons ?_ (.cons ?_ (.cons ?_ .nil)))
        · refine WO.op (b' := 59) (by kernel_rfl) (op := .buildSlice 23 1 #[(0, (.tmp 49))]) (ty := 23) (d := some 50) (g := none) (by kernel_rfl) (by kernel_rfl) (by kernel_rfl) (Does.new (o := .cells #[.int .i64 a0.f0, .int .i64 a0.f1, .slice Aa0_f2 a0.f2.length ca0_f2, .slice Aa0_f3 a0.f3.length ca0_f3] 25 (0, 0)) (v := fun r => .slice (some ⟨r, 0, none⟩) 1 1) (fun r => by kernel_rfl)) ?_
          rintro _ _ _ ⟨b47, rfl, rfl, rfl⟩
          refine ⟨_, _, Under.refl, (Under.subl (by repeat first | exact List.nil_sublist _ | apply List.Sublist.cons_cons | apply List.Sublist.cons)), ?_⟩
          refine WA.pure [2] [3, 4, 5, 7, 8, 51, 54] (m := 4) (b' := 63) (L' := [(3, .pointer (some ⟨b1, 0, none⟩)), (4, .pointer (some ⟨b2, 0, none⟩)), (5, .pointer (some ⟨b3, 0, none⟩)), (7, .bool t36), (8, .bool t40), (51, .agg #[.int .i64 9, .int .i64 0, .slice none 0 0, .slice (some ⟨b47, 0, none⟩) ([a0] : List T25).length 1]), (54, .agg #[.int .i64 9, .int .i64 0, .slice none 0 0, .slice (some ⟨b44, 0, none⟩) ([a1] : List T25).length 1])]) (by kernel_rfl) (NoPanic.then (NoPanic.body)) (Under.subl (by repeat first | exact List.nil_sublist _ | apply List.Sublist.cons_cons | apply List.Sublist.cons)) hS (by kernel_rfl) ?_
          refine WA.front (i := 4) rfl ?_
          refine WA.front (i := 4) rfl ?_
          refine WA.front (i := 4) rfl ?_
          refine WA.front (i := 3) rfl ?_
          refine WA.front (i := 4) rfl ?_
          exact WA.pickJ [3, 4, 5, 7, 8, 51, 54] (J63 b47 b44) (by kernel_rfl)
        · refine WO.op (b' := 121) (by kernel_rfl) (op := .alloc 25) (ty := 0) (d := some 9) (g := none) (by kernel_rfl) (by kernel_rfl) (by kernel_rfl) (Does.new (o := .cells #[.int .i64 0, .int .i64 0, .slice none 0 0, .slice none 0 0] 25 (0, 0)) (v := fun r => .pointer (some ⟨r, 0, none⟩)) (fun r => by kernel_rfl)) ?_
          rintro _ _ _ ⟨b47, rfl, rfl, rfl⟩
          refine ⟨_, _, Under.refl, (Under.subl (by repeat first | exact List.nil_sublist _ | apply List.Sublist.cons_cons | apply List.Sublist.cons)), ?_⟩
          exact WA.pickJ [3, 4, 5, 7, 8, 9, 49, 54] (J121 b47 b44) (by kernel_rfl)
        · refine WO.op (b' := 185) (by kernel_rfl) (op := .alloc 25) (ty := 0) (d := some 10) (g := none) (by kernel_rfl) (by kernel_rfl) (by kernel_rfl) (Does.new (o := .cells #[.int .i64 0, .int .i64 0, .slice none 0 0, .slice none 0 0] 25 (0, 0)) (v := fun r => .pointer (some ⟨r, 0, none⟩)) (fun r => by kernel_rfl)) ?_
          rintro _ _ _ ⟨b47, rfl, rfl, rfl⟩
          refine ⟨_, _, Under.refl, (Under.subl (by repeat first | exact List.nil_sublist _ | apply List.Sublist.cons_cons | apply List.Sublist.cons)), ?_⟩
          exact WA.pickJ [3, 4, 5, 7, 8, 10, 49, 54] (J185 b47 b44) (by kernel_rfl)
      refine WA.junc2 6 201 (fun b44 b45 => [(3, .pointer (some ⟨b1, 0, none⟩)), (4, .pointer (some ⟨b2, 0, none⟩)), (5, .pointer (some ⟨b3, 0, none⟩)), (7, .bool t36), (8, .bool t40), (9, .pointer (some ⟨b44, 0, none⟩)), (10, .pointer (some ⟨b45, 0, none⟩)), (49, .agg #[.int .i64 a0.f0, .int .i64 a0.f1, .slice Aa0_f2 a0.f2.length ca0_f2, .slice Aa0_f3 a0.f3.length ca0_f3]), (52, .agg #[.int .i64 a1.f0, .int .i64 a1.f1, .slice Aa1_f2 a1.f2.length ca1_f2, .slice Aa1_f3 a1.f3.length ca1_f3])]) (fun b44 b45 => [(b45, .cells #[.int .i64 0, .int .i64 0, .slice none 0 0, .slice none 0 0] 25 (0, 0))] :: [(b44, .cells #[.int .i64 0, .int .i64 0, .slice none 0 0, .slice none 0 0] 25 (0, 0))] :: [(b3, .cells #[.int .i64 a2.f0, .int .i64 a2.f1, .int .i64 a2.f2, .int .i64 a2.f3, .string a2.f4] 31 (0, 0))] :: [(b2, .cells #[.int .i64 a1.f0, .int .i64 a1.f1, .slice Aa1_f2 a1.f2.length ca1_f2, .slice Aa1_f3 a1.f3.length ca1_f3] 25 (0, 0))] :: [(b1, .cells #[.int .i64 a0.f0, .int .i64 a0.f1, .slice Aa0_f2 a0.f2.length ca0_f2, .slice Aa0_f3 a0.f3.length ca0_f3] 25 (0, 0))] :: Γ) (fun b44 b45 => ?_) (fun J201 => ?_)
      · refine WA.many 1 [4] (m := 5) (by kernel_rfl) hS (by kernel_rfl) (.cons ?_ (.cons ?_ .nil))
        · refine WO.op (b' := 203) (by kernel_rfl) (op := .buildSlice 23 1 #[(0, (.tmp 49))]) (ty := 23) (d := some 50) (g := none) (by kernel_rfl) (by kernel_rfl) (by kernel_rfl) (Does.new (o := .cells #[.int .i64 a0.f0, .int .i64 a0.f1, .slice Aa0_f2 a0.f2.length ca0_f2, .slice Aa0_f3 a0.f3.length ca0_f3] 25 (0, 0)) (v := fun r => .slice (some ⟨r, 0, none⟩) 1 1) (fun r => by kernel_rfl)) ?_
          rintro _ _ _ ⟨b46, rfl, rfl, rfl⟩
          refine ⟨_, _, Under.refl, (Under.subl (by repeat first | exact List.nil_sublist _ | apply List.Sublist.cons_cons | apply List.Sublist.cons)), ?_⟩
          refine WA.pure [2] [3, 4, 5, 7, 8, 9, 10, 51, 52] (m := 4) (b' := 207) (L' := [(3, .pointer (some ⟨b1, 0, none⟩)), (4, .pointer (some ⟨b2, 0, none⟩)), (5, .pointer (some ⟨b3, 0, none⟩)), (7, .bool t36), (8, .bool t40), (9, .pointer (some ⟨b44, 0, none⟩)), (10, .pointer (some ⟨b45, 0, none⟩)), (51, .agg #[.int .i64 9, .int .i64 0, .slice none 0 0, .slice (some ⟨b46, 0, none⟩) ([a0] : List T25).length 1]), (52, .agg #[.int .i64 a1.f0, .int .i64 a1.f1, .slice Aa1_f2 a1.f2.length ca1_f2, .slice Aa1_f3 a1.f3.length ca1_f3])]) (by kernel_rfl) (NoPanic.then (NoPanic.body)) (Under.subl (by repeat first | exact List.nil_sublist _ | apply List.Sublist.cons_cons | apply List.Sublist.cons)) hS (by kernel_rfl) ?_
          refine WA.front (i := 5) rfl ?_
          refine WA.front (i := 5) rfl ?_
          refine WA.front (i := 5) rfl ?_
          refine WA.front (i := 3) rfl ?_
          refine WA.front (i := 5) rfl ?_
          refine WA.front (i := 5) rfl ?_
          exact WA.pickJ [3, 4, 5, 7, 8, 9, 10, 51, 52] (J207 b44 b45 b46) (by kernel_rfl)
        · refine WO.op (b' := 217) (by kernel_rfl) (op := .buildSlice 23 1 #[(0, (.tmp 52))]) (ty := 23) (d := some 53) (g := none) (by kernel_rfl) (by kernel_rfl) (by kernel_rfl) (Does.new (o := .cells #[.int .i64 a1.f0, .int .i64 a1.f1, .slice Aa1_f2 a1.f2.length ca1_f2, .slice Aa1_f3 a1.f3.length ca1_f3] 25 (0, 0)) (v := fun r => .slice (some ⟨r, 0, none⟩) 1 1) (fun r => by kernel_rfl)) ?_
          rintro _ _ _ ⟨b46, rfl, rfl, rfl⟩
          refine ⟨_, _, Under.refl, (Under.subl (by repeat first | exact List.nil_sublist _ | apply List.Sublist.cons_cons | apply List.Sublist.cons)), ?_⟩
          refine WA.pure [5] [3, 4, 5, 7, 8, 9, 10, 49, 54] (m := 4) (b' := 249) (L' := [(3, .pointer (some ⟨b1, 0, none⟩)), (4, .pointer (some ⟨b2, 0, none⟩)), (5, .pointer (some ⟨b3, 0, none⟩)), (7, .bool t36), (8, .bool t40), (9, .pointer (some ⟨b44, 0, none⟩)), (10, .pointer (some ⟨b45, 0, none⟩)), (49, .agg #[.int .i64 a0.f0, .int .i64 a0.f1, .slice Aa0_f2 a0.f2.length ca0_f2, .slice Aa0_f3 a0.f3.length ca0_f3]), (54, .agg #[.int .i64 9, .int .i64 0, .slice none 0 0, .slice (some ⟨b46, 0, none⟩) ([a1] : List T25).length 1])]) (by kernel_rfl) (NoPanic.then (NoPanic.body)) (Under.subl (by repeat first | exact List.nil_sublist _ | apply List.Sublist.cons_cons | apply List.Sublist.cons)) hS (by kernel_rfl) ?_
          refine WA.front (i := 5) rfl ?_
          refine WA.front (i := 5) rfl ?_
          refine WA.front (i := 5) rfl ?_
          refine WA.front (i := 3) rfl ?_
          refine WA.front (i := 5) rfl ?_
          refine WA.front (i := 5) rfl ?_
          exact WA.pickJ [3, 4, 5, 7, 8, 9, 10, 49, 54] (J249 b44 b45 b46) (by kernel_rfl)
      refine WA.junc1 7 73 (fun b44 => [(3, .pointer (some ⟨b1, 0, none⟩)), (4, .pointer (some ⟨b2, 0, none⟩)), (5, .pointer (some ⟨b3, 0, none⟩)), (7, .bool t36), (8, .bool t40), (9, .pointer (some ⟨b44, 0, none⟩)), (49, .agg #[.int .i64 a0.f0, .int .i64 a0.f1, .slice Aa0_f2 a0.f2.length ca0_f2, .slice Aa0_f3 a0.f3.length ca0_f3]), (52, .agg #[.int .i64 a1.f0, .int .i64 a1.f1, .slice Aa1_f2 a1.f2.length ca1_f2, .slice Aa1_f3 a1.f3.length ca1_f3])]) (fun b44 => [(b44, .cells #[.int .i64 0, .int .i64 0, .slice none 0 0, .slice none 0 0] 25 (0, 0))] :: [(b3, .cells #[.int .i64 a2.f0, .int .i64 a2.f1, .int .i64 a2.f2, .int .i64 a2.f3, .string a2.f4] 31 (0, 0))] :: [(b2, .cells #[.int .i64 a1.f0, .int .i64 a1.f1, .slice Aa1_f2 a1.f2.length ca1_f2, .slice Aa1_f3 a1.f3.length ca1_f3] 25 (0, 0))] :: [(b1, .cells #[.int .i64 a0.f0, .int .i64 a0.f1, .slice Aa0_f2 a0.f2.length ca0_f2, .slice Aa0_f3 a0.f3.length ca0_f3] 25 (0, 0))] :: Γ) (fun b44 => ?_) (fun J73 => ?_)
      · refine WA.many 1 [4, 7] (m := 6) (by kernel_rfl) hS (by kernel_rfl) (.cons ?_ (.cons ?_ (.cons ?_ .nil)))
        · refine WO.op (b' := 75) (by kernel_rfl) (op := .buildSlice 23 1 #[(0, (.tmp 49))]) (ty := 23) (d := some 50) (g := none) (by kernel_rfl) (by kernel_rfl) (by kernel_rfl) (Does.new (o := .cells #[.int .i64 a0.f0, .int .i64 a0.f1, .slice Aa0_f2 a0.f2.length ca0_f2, .slice Aa0_f3 a0.f3.length ca0_f3] 25 (0, 0)) (v := fun r => .slice (some ⟨r, 0, none⟩) 1 1) (fun r => by kernel_rfl)) ?_
          rintro _ _ _ ⟨b45, rfl, rfl, rfl⟩
          refine ⟨_, _, Under.refl, (Under.subl (by repeat first | exact List.nil_sublist _ | apply List.Sublist.cons_cons | apply List.Sublist.cons)), ?_⟩
          refine WA.pure [2] [3, 4, 5, 7, 8, 9, 51, 52] (m := 5) (b' := 79) (L' := [(3, .pointer (some ⟨b1, 0, none⟩)), (4, .pointer (some ⟨b2, 0, none⟩)), (5, .pointer (some ⟨b3, 0, none⟩)), (7, .bool t36), (8, .bool t40), (9, .pointer (some ⟨b44, 0, none⟩)), (51, .agg #[.int .i64 9, .int .i64 0, .slice none 0 0, .slice (some ⟨b45, 0, none⟩) ([a0] : List T25).length 1]), (52, .agg #[.int .i64 a1.f0, .int .i64 a1.f1, .slice Aa1_f2 a1.f2.length ca1_f2, .slice Aa1_f3 a1.f3.length ca1_f3])]) (by kernel_rfl) (NoPanic.then (NoPanic.body)) (Under.subl (by repeat first | exact List.nil_sublist _ | apply List.Sublist.cons_cons | apply List.Sublist.cons)) hS (by kernel_rfl) ?_
          refine WA.front (i := 4) rfl ?_
          refine WA.front (i := 4) rfl ?_
          refine WA.front (i := 4) rfl ?_
          refine WA.front (i := 3) rfl ?_
          refine WA.front (i := 4) rfl ?_
          exact WA.pickJ [3, 4, 5, 7, 8, 9, 51, 52] (J79 b44 b45) (by kernel_rfl)
        · refine WO.op (b' := 89) (by kernel_rfl) (op := .buildSlice 23 1 #[(0, (.tmp 52))]) (ty := 23) (d := some 53) (g := none) (by kernel_rfl) (by kernel_rfl) (by kernel_rfl) (Does.new (o := .cells #[.int .i64 a1.f0, .int .i64 a1.f1, .slice Aa1_f2 a1.f2.length ca1_f2, .slice Aa1_f3 a1.f3.length ca1_f3] 25 (0, 0)) (v := fun r => .slice (some ⟨r, 0, none⟩) 1 1) (fun r => by kernel_rfl)) ?_
          rintro _ _ _ ⟨b45, rfl, rfl, rfl⟩
          refine ⟨_, _, Under.refl, (Under.subl (by repeat first | exact List.nil_sublist _ | apply List.Sublist.cons_cons | apply List.Sublist.cons)), ?_⟩
          refine WA.pure [5] [3, 4, 5, 7, 8, 9, 49, 54] (m := 5) (b' := 121) (L' := [(3, .pointer (some ⟨b1, 0, none⟩)), (4, .pointer (some ⟨b2, 0, none⟩)), (5, .pointer (some ⟨b3, 0, none⟩)), (7, .bool t36), (8, .bool t40), (9, .pointer (some ⟨b44, 0, none⟩)), (49, .agg #[.int .i64 a0.f0, .int .i64 a0.f1, .slice Aa0_f2 a0.f2.length ca0_f2, .slice Aa0_f3 a0.f3.length ca0_f3]), (54, .agg #[.int .i64 9, .int .i64 0, .slice none 0 0, .slice (some ⟨b45, 0, none⟩) ([a1] : List T25).length 1])]) (by kernel_rfl) (NoPanic.then (NoPanic.body)) (Under.subl (by repeat first | exact List.nil_sublist _ | apply List.Sublist.cons_cons | apply List.Sublist.cons)) hS (by kernel_rfl) ?_
          refine WA.front (i := 4) rfl ?_
          refine WA.front (i := 4) rfl ?_
          refine WA.front (i := 4) rfl ?_
          refine WA.front (i := 3) rfl ?_
          refine WA.front (i := 4) rfl ?_
          exact WA.pickJ [3, 4, 5, 7, 8, 9, 49, 54] (J121 b44 b45) (by kernel_rfl)
        · refine WO.op (b' := 201) (by kernel_rfl) (op := .alloc 25) (ty := 0) (d := some 10) (g := none) (by kernel_rfl) (by kernel_rfl) (by kernel_rfl) (Does.new (o := .cells #[.int .i64 0, .int .i64 0, .slice none 0 0, .slice none 0 0] 25 (0, 0)) (v := fun r => .pointer (some ⟨r, 0, none⟩)) (fun r => by kernel_rfl)) ?_
          rintro _ _ _ ⟨b45, rfl, rfl, rfl⟩
          refine ⟨_, _, Under.refl, (Under.subl (by repeat first | exact List.nil_sublist _ | apply List.Sublist.cons_cons | apply List.Sublist.cons)), ?_⟩
          exact WA.pickJ [3, 4, 5, 7, 8, 9, 10, 49, 52] (J201 b44 b45) (by kernel_rfl)
      refine WA.junc1 7 137 (fun b44 => [(3, .pointer (some ⟨b1, 0, none⟩)), (4, .pointer (some ⟨b2, 0, none⟩)), (5, .pointer (some ⟨b3, 0, none⟩)), (7, .bool t36), (8, .bool t40), (10, .pointer (some ⟨b44, 0, none⟩)), (49, .agg #[.int .i64 a0.f0, .int .i64 a0.f1, .slice Aa0_f2 a0.f2.length ca0_f2, .slice Aa0_f3 a0.f3.length ca0_f3]), (52, .agg #[.int .i64 a1.f0, .int .i64 a1.f1, .slice Aa1_f2 a1.f2.length ca1_f2, .slice Aa1_f3 a1.f3.length ca1_f3])]) (fun b44 => [(b44, .cells #[.int .i64 0, .int .i64 0, .slice none 0 0, .slice none 0 0] 25 (0, 0))] :: [(b3, .cells #[.int .i64 a2.f0, .int .i64 a2.f1, .int .i64 a2.f2, .int .i64 a2.f3, .string a2.f4] 31 (0, 0))] :: [(b2, .cells #[.int .i64 a1.f0, .int .i64 a1.f1, .slice Aa1_f2 a1.f2.length ca1_f2, .slice Aa1_f3 a1.f3.length ca1_f3] 25 (0, 0))] :: [(b1, .cells #[.int .i64 a0.f0, .int .i64 a0.f1, .slice Aa0_f2 a0.f2.length ca0_f2, .slice Aa0_f3 a0.f3.length ca0_f3] 25 (0, 0))] :: Γ) (fun b44 => ?_) (fun J137 => ?_)
      · refine WA.many 1 [4, 6] (m := 6) (by kernel_rfl) hS (by kernel_rfl) (.cons ?_ (.cons ?_ (.cons ?_ .nil)))
        · refine WO.op (b' := 139) (by kernel_rfl) (op := .buildSlice 23 1 #[(0, (.tmp 49))]) (ty := 23) (d := some 50) (g := none) (by kernel_rfl) (by kernel_rfl) (by kernel_rfl) (Does.new (o := .cells #[.int .i64 a0.f0, .int .i64 a0.f1, .slice Aa0_f2 a0.f2.length ca0_f2, .slice Aa0_f3 a0.f3.length ca0_f3] 25 (0, 0)) (v := fun r => .slice (some ⟨r, 0, none⟩) 1 1) (fun r => by kernel_rfl)) ?_
          rintro _ _ _ ⟨b45, rfl, rfl, rfl⟩
          refine ⟨_, _, Under.refl, (Under.subl (by repeat first | exact List.nil_sublist _ | apply List.Sublist.cons_cons | apply List.Sublist.cons)), ?_⟩
          refine WA.pure [2] [3, 4, 5, 7, 8, 10, 51, 52] (m := 5) (b' := 143) (L' := [(3, .pointer (some ⟨b1, 0, none⟩)), (4, .pointer (some ⟨b2, 0, none⟩)), (5, .pointer (some ⟨b3, 0, none⟩)), (7, .bool t36), (8, .bool t40), (10, .pointer (some ⟨b44, 0, none⟩)), (51, .agg #[.int .i64 9, .int .i64 0, .slice none 0 0, .slice (some ⟨b45, 0, none⟩) ([a0] : List T25).length 1]), (52, .agg #[.int .i64 a1.f0, .int .i64 a1.f1, .slice Aa1_f2 a1.f2.length ca1_f2, .slice Aa1_f3 a1.f3.length ca1_f3])]) (by kernel_rfl) (NoPanic.then (NoPanic.body)) (Under.subl (by repeat first | exact List.nil_sublist _ | apply List.Sublist.cons_cons | apply List.Sublist.cons)) hS (by kernel_rfl) ?_
          refine WA.front (i := 4) rfl ?_
          refine WA.front (i := 4) rfl ?_
          refine WA.front (i := 4) rfl ?_
          refine WA.front (i := 3) rfl ?_
          refine WA.front (i := 4) rfl ?_
          exact WA.pickJ [3, 4, 5, 7, 8, 10, 51, 52] (J143 b44 b45) (by kernel_rfl)
        · refine WO.op (b' := 153) (by kernel_rfl) (op := .buildSlice 23 1 #[(0, (.tmp 52))]) (ty := 23) (d := some 53) (g := none) (by kernel_rfl) (by kernel_rfl) (by kernel_rfl) (Does.new (o := .cells #[.int .i64 a1.f0, .int .i64 a1.f1, .slice Aa1_f2 a1.f2.length ca1_f2, .slice Aa1_f3 a1.f3.length ca1_f3] 25 (0, 0)) (v := fun r => .slice (some ⟨r, 0, none⟩) 1 1) (fun r => by kernel_rfl)) ?_
          rintro _ _ _ ⟨b45, rfl, rfl, rfl⟩
          refine ⟨_, _, Under.refl, (Under.subl (by repeat first | exact List.nil_sublist _ | apply List.Sublist.cons_cons | apply List.Sublist.cons)), ?_⟩
          refine WA.pure [5] [3, 4, 5, 7, 8, 10, 49, 54] (m := 5) (b' := 185) (L' := [(3, .pointer (some ⟨b1, 0, none⟩)), (4, .pointer (some ⟨b2, 0, none⟩)), (5, .pointer (some ⟨b3, 0, none⟩)), (7, .bool t36), (8, .bool t40), (10, .pointer (some ⟨b44, 0, none⟩)), (49, .agg #[.int .i64 a0.f0, .int .i64 a0.f1, .slice Aa0_f2 a0.f2.length ca0_f2, .slice Aa0_f3 a0.f3.length ca0_f3]), (54, .agg #[.int .i64 9, .int .i64 0, .slice none 0 0, .slice (some ⟨b45, 0, none⟩) ([a1] : List T25).length 1])]) (by kernel_rfl) (NoPanic.then (NoPanic.body)) (Under.subl (by repeat first | exact List.nil_sublist _ | apply List.Sublist.cons_cons | apply List.Sublist.cons)) hS (by kernel_rfl) ?_
          refine WA.front (i := 4) rfl ?_
          refine WA.front (i := 4) rfl ?_
          refine WA.front (i := 4) rfl ?_
          refine WA.front (i := 3) rfl ?_
          refine WA.front (i := 4) rfl ?_
          exact WA.pickJ [3, 4, 5, 7, 8, 10, 49, 54] (J185 b44 b45) (by kernel_rfl)
        · refine WO.op (b' := 201) (by kernel_rfl) (op := .alloc 25) (ty := 0) (d := some 9) (g := none) (by kernel_rfl) (by kernel_rfl) (by kernel_rfl) (Does.new (o := .cells #[.int .i64 0, .int .i64 0, .slice none 0 0, .slice none 0 0] 25 (0, 0)) (v := fun r => .pointer (some ⟨r, 0, none⟩)) (fun r => by kernel_rfl)) ?_
          rintro _ _ _ ⟨b45, rfl, rfl, rfl⟩
          refine ⟨_, _, Under.refl, (Under.subl (by repeat first | exact List.nil_sublist _ | apply List.Sublist.cons_cons | apply List.Sublist.cons)), ?_⟩
          refine WA.front (i := 4) rfl ?_
          refine WA.front (i := 4) rfl ?_
          refine WA.front (i := 4) rfl ?_
          refine WA.front (i := 3) rfl ?_
          refine WA.front (i := 4) rfl ?_
          exact WA.pickJ [3, 4, 5, 7, 8, 9, 10, 49, 52] (J201 b45 b44) (by kernel_rfl)
      refine WA.tellD [] (i := 0) (m := 9) (b' := 1) (by kernel_rfl) (NoPanic.then (NoPanic.body)) (Under.subl (by repeat first | exact List.nil_sublist _ | apply List.Sublist.cons_cons | apply List.Sublist.cons)) hS (by kernel_rfl) (op := .load 25 (.tmp 3)) (ty := 25) (d := some 49) (g := none) (by kernel_rfl) (by kernel_rfl) (by kernel_rfl) (Tells.load_box (i := 1) (b := b1) (o := 0) (agg := true) (by rfl) ag25 (by kernel_rfl) (fun h => by cases h) (Nat.le_of_ble_eq_true rfl) (v := .agg #[.int .i64 a0.f0, .int .i64 a0.f1, .slice Aa0_f2 a0.f2.length ca0_f2, .slice Aa0_f3 a0.f3.length ca0_f3]) (by kernel_rfl)) ?_
      refine WA.tellD [] (i := 3) (m := 8) (b' := 9) (by kernel_rfl) (NoPanic.then (NoPanic.body)) (Under.subl (by repeat first | exact List.nil_sublist _ | apply List.Sublist.cons_cons | apply List.Sublist.cons)) hS (by kernel_rfl) (op := .load 25 (.tmp 4)) (ty := 25) (d := some 52) (g := none) (by kernel_rfl) (by kernel_rfl) (by kernel_rfl) (Tells.load_box (i := 0) (b := b2) (o := 0) (agg := true) (by rfl) ag25 (by kernel_rfl) (fun h => by cases h) (Nat.le_of_ble_eq_true rfl) (v := .agg #[.int .i64 a1.f0, .int .i64 a1.f1, .slice Aa1_f2 a1.f2.length ca1_f2, .slice Aa1_f3 a1.f3.length ca1_f3]) (by kernel_rfl)) ?_
      refine WA.many 1 [4, 6, 7] (m := 7) (by kernel_rfl) hS (by kernel_rfl) (.cons ?_ (.cons ?_ (.cons ?_ (.cons ?_ .nil))))
      · refine WO.op (b' := 11) (by kernel_rfl) (op := .buildSlice 23 1 #[(0, (.tmp 49))]) (ty := 23) (d := some 50) (g := none) (by kernel_rfl) (by kernel_rfl) (by kernel_rfl) (Does.new (o := .cells #[.int .i64 a0.f0, .int .i64 a0.f1, .slice Aa0_f2 a0.f2.length ca0_f2, .slice Aa0_f3 a0.f3.length ca0_f3] 25 (0, 0)) (v := fun r => .slice (some ⟨r, 0, none⟩) 1 1) (fun r => by kernel_rfl)) ?_
        rintro _ _ _ ⟨b44, rfl, rfl, rfl⟩
        refine ⟨_, _, Under.refl, (Under.subl (by repeat first | exact List.nil_sublist _ | apply List.Sublist.cons_cons | apply List.Sublist.cons)), ?_⟩
        refine WA.pure [2] [3, 4, 5, 7, 8, 51, 52] (m := 6) (b' := 15) (L' := [(3, .pointer (some ⟨b1, 0, none⟩)), (4, .pointer (some ⟨b2, 0, none⟩)), (5, .pointer (some ⟨b3, 0, none⟩)), (7, .bool t36), (8, .bool t40), (51, .agg #[.int .i64 9, .int .i64 0, .slice none 0 0, .slice (some ⟨b44, 0, none⟩) ([a0] : List T25).length 1]), (52, .agg #[.int .i64 a1.f0, .int .i64 a1.f1, .slice Aa1_f2 a1.f2.length ca1_f2, .slice Aa1_f3 a1.f3.length ca1_f3])]) (by kernel_rfl) (NoPanic.then (NoPanic.body)) (Under.subl (by repeat first | exact List.nil_sublist _ | apply List.Sublist.cons_cons | apply List.Sublist.cons)) hS (by kernel_rfl) ?_
        exact WA.pickJ [3, 4, 5, 7, 8, 51, 52] (J15 b44) (by kernel_rfl)
      · refine WO.op (b' := 25) (by kernel_rfl) (op := .buildSlice 23 1 #[(0, (.tmp 52))]) (ty := 23) (d := some 53) (g := none) (by kernel_rfl) (by kernel_rfl) (by kernel_rfl) (Does.new (o := .cells #[.int .i64 a1.f0, .int .i64 a1.f1, .slice Aa1_f2 a1.f2.length ca1_f2, .slice Aa1_f3 a1.f3.length ca1_f3] 25 (0, 0)) (v := fun r => .slice (some ⟨r, 0, none⟩) 1 1) (fun r => by kernel_rfl)) ?_
        rintro _ _ _ ⟨b44, rfl, rfl, rfl⟩
        refine ⟨_, _, Under.refl, (Under.subl (by repeat first | exact List.nil_sublist _ | apply List.Sublist.cons_cons | apply List.Sublist.cons)), ?_⟩
        refine WA.pure [5] [3, 4, 5, 7, 8, 49, 54] (m := 6) (b' := 57) (L' := [(3, .pointer (some ⟨b1, 0, none⟩)), (4, .pointer (some ⟨b2, 0, none⟩)), (5, .pointer (some ⟨b3, 0, none⟩)), (7, .bool t36), (8, .bool t40), (49, .agg #[.int .i64 a0.f0, .int .i64 a0.f1, .slice Aa0_f2 a0.f2.length ca0_f2, .slice Aa0_f3 a0.f3.length ca0_f3]), (54, .agg #[.int .i64 9, .int .i64 0, .slice none 0 0, .slice (some ⟨b44, 0, none⟩) ([a1] : List T25).length 1])]) (by kernel_rfl) (NoPanic.then (NoPanic.body)) (Under.subl (by repeat first | exact List.nil_sublist _ | apply List.Sublist.cons_cons | apply List.Sublist.cons)) hS (by kernel_rfl) ?_
        exact WA.pickJ [3, 4, 5, 7, 8, 49, 54] (J57 b44) (by kernel_rfl)
      · refine WO.op (b' := 73) (by kernel_rfl) (op := .alloc 25) (ty := 0) (d := some 9) (g := none) (by kernel_rfl) (by kernel_rfl) (by kernel_rfl) (Does.new (o := .cells #[.int .i64 0, .int .i64 0, .slice none 0 0, .slice none 0 0] 25 (0, 0)) (v := fun r => .pointer (some ⟨r, 0, none⟩)) (fun r => by kernel_rfl)) ?_
        rintro _ _ _ ⟨b44, rfl, rfl, rfl⟩
        refine ⟨_, _, Under.refl, (Under.subl (by repeat first | exact List.nil_sublist _ | apply List.Sublist.cons_cons | apply List.Sublist.cons)), ?_⟩
        exact WA.pickJ [3, 4, 5, 7, 8, 9, 49, 52] (J73 b44) (by kernel_rfl)
      · refine WO.op (b' := 137) (by kernel_rfl) (op := .alloc 25) (ty := 0) (d := some 10) (g := none) (by kernel_rfl) (by kernel_rfl) (by kernel_rfl) (Does.new (o := .cells #[.int .i64 0, .int .i64 0, .slice none 0 0, .slice none 0 0] 25 (0, 0)) (v := fun r => .pointer (some ⟨r, 0, none⟩)) (fun r => by kernel_rfl)) ?_
        rintro _ _ _ ⟨b44, rfl, rfl, rfl⟩
        refine ⟨_, _, Under.refl, (Under.subl (by repeat first | exact List.nil_sublist _ | apply List.Sublist.cons_cons | apply List.Sublist.cons)), ?_⟩
        exact WA.pickJ [3, 4, 5, 7, 8, 10, 49, 52] (J137 b44) (by kernel_rfl)
/-- The plain law. -/
def DeemLogic_Pure : Prop := ∀ (a0 : T25) (a1 : T25) (a2 : T31), Ok25 a0 → Ok25 a1 → ((Lit.int .i64 a2.f0).wf = true ∧ (Lit.int .i64 a2.f1).wf = true ∧ (Lit.int .i64 a2.f2).wf = true ∧ (Lit.int .i64 a2.f3).wf = true ∧ a2.f4.size ≤ maxLen) → ∃ k, grapevinelaw15_DeemLogic k a0 a1 a2 = some true
end Go.Proofs.YtbphlohiealbeaaDoor.Gf
