/- Walks of Go functions: what each tells, as a plain Lean function, and that the Go code comes to it. Written by gg.py of this repo. -/
import Derived.Test.YtbphlohiealbeaaDoorT
import Derived.Test.YtbphlohiealbeaaDoorF0
import Derived.Test.YtbphlohiealbeaaDoorF1
namespace Go.Proofs.YtbphlohiealbeaaDoor.Gf
open Go Go.Gg
set_option maxRecDepth 100000
set_option linter.unusedVariables false
set_option linter.unusedSimpArgs false

/-! ### grapevine/grapevinelaw15.DeemWords: function 5 -/
def grapevinelaw15_DeemWords_l0 (t14 : List T45) (t23 : Int) (t27 : Int) : Nat → (List ByteArray) → Int → Option (List ByteArray)
  | 0, _, _ => none
  | k + 1, y33, y34 => (if y34 ≤ (if t27 > t23 then t27 else t23) then (if 0 ≤ y34 ∧ y34 < (t14.length : Int) then (if y33.length + ([(t14.getD y34.toNat z45).f0] : List ByteArray).length ≤ 1073741824 then grapevinelaw15_DeemWords_l0 t14 t23 t27 k (y33 ++ ([(t14.getD y34.toNat z45).f0] : List ByteArray)) (IntKind.i64.wrap (y34 + 1)) else none) else none) else some y33)
def grapevinelaw15_DeemWords (k : Nat) (a0 : T31) (a1 : Int) (a2 : Int) (a3 : Int) : Option Bool := ((if (a0.f4.size : Int) > 300 then some true else ((record_May a0).bind fun t5 => some (!t5))).bind fun s2 => (if s2 = true then ((grapevinelaw15_awake k ).bind fun t10 => some t10) else ((tokens_Of k a0.f4).bind fun t14 => (if (t14.length : Int) = 0 then ((grapevinelaw15_awake k ).bind fun t19 => some t19) else ((grapevinelaw0_Low a1 (t14.length : Int)).bind fun t23 => ((grapevinelaw0_Low a2 (t14.length : Int)).bind fun t27 => ((grapevinelaw15_DeemWords_l0 t14 t23 t27 k ([] : List ByteArray) (if t27 < t23 then t27 else t23)).bind fun s31 => (if 0 ≤ (if t27 < t23 then t27 else t23) ∧ (if t27 < t23 then t27 else t23) < (t14.length : Int) then ((some ((t14.getD (if t27 < t23 then t27 else t23).toNat z45).f0)).bind fun v45 => (if (v45.toList == (⟨#[]⟩ : ByteArray).toList) = true then some false else ((grapevinelaw0_Low a3 (v45.size : Int)).bind fun t52 => (if 0 ≤ (0 : Int) ∧ (0 : Int) ≤ (IntKind.i64.wrap (1 + t52)) ∧ (IntKind.i64.wrap (1 + t52)) ≤ (v45.size : Int) then (((deem_Phrase k t14 s31).bind fun t64 => (if t64 = true then ((deem_Holds k (⟨1, 0, ([v45] : List ByteArray), ([] : List T25)⟩ : T25) a0).bind fun t71 => ((ask_May k (⟨1, 0, ([v45] : List ByteArray), ([] : List T25)⟩ : T25)).bind fun t76 => (if (t71 == t76) = true then ((deem_Holds k (⟨2, 0, ([(v45.extract (0 : Int).toNat (IntKind.i64.wrap (1 + t52)).toNat)] : List ByteArray), ([] : List T25)⟩ : T25) a0).bind fun t82 => ((ask_May k (⟨2, 0, ([(v45.extract (0 : Int).toNat (IntKind.i64.wrap (1 + t52)).toNat)] : List ByteArray), ([] : List T25)⟩ : T25)).bind fun t87 => (if (t82 == t87) = true then ((deem_Holds k (⟨3, 0, s31, ([] : List T25)⟩ : T25) a0).bind fun t93 => ((ask_May k (⟨3, 0, s31, ([] : List T25)⟩ : T25)).bind fun t98 => (if (t93 == t98) = true then ((grapevinelaw15_awake k ).bind fun t104 => some t104) else some false))) else some false))) else some false))) else some false)).bind fun s62 => some s62) else none)))) else none))))))))
set_option maxHeartbeats 4000000 in
theorem grapevinelaw15_DeemWords_calls {B : World} {G : GMap} {Γ : List Chunk} {W : World} (HT : Tabs B G) (k : Nat) (a0 : T31) (a1 : Int) (a2 : Int) (a3 : Int) (r : Bool) (h : grapevinelaw15_DeemWords k a0 a1 a2 a3 = some r) (hI : Inv B G (Γ) W) :
    Calls Tryd.prog 5 [.agg #[.int .i64 a0.f0, .int .i64 a0.f1, .int .i64 a0.f2, .int .i64 a0.f3, .string a0.f4], .int .i64 a1, .int .i64 a2, .int .i64 a3].toArray W (Ret B (fun v G' Γ' => v = .bool r ∧ G = G' ∧ Γ = Γ')) := by
  refine calls_WP (Γ := Γ) (G := G) (B := B) Tryd.func5 rfl (by kernel_rfl) ?_ hI
  clear hI
  unfold grapevinelaw15_DeemWords at h
  refine WP.seqR ?_
  refine WL.op (op := .box 31 (.tmp 0)) (ty := 0) (d := some 4) (g := none) (by kernel_rfl) (by kernel_rfl) (by kernel_rfl) (Does.new (o := .cells #[.int .i64 a0.f0, .int .i64 a0.f1, .int .i64 a0.f2, .int .i64 a0.f3, .string a0.f4] 31 (0, 0)) (v := fun r => .pointer (some ⟨r, 0, none⟩)) (fun r => by kernel_rfl)) ?_
  rintro _ _ _ ⟨b1, rfl, rfl, rfl⟩
  refine WL.restQ 1 [1, 2, 3, 4] (L' := [(1, .int .i64 a1), (2, .int .i64 a2), (3, .int .i64 a3), (4, .pointer (some ⟨b1, 0, none⟩))]) (by kernel_rfl) ?_
  refine WP.seq ?_
  rw [Option.bind_eq_some_iff] at h
  obtain ⟨os2, h, hk3⟩ := h
  refine WP.cut (fun L' G' Γ' => ∃ s2 : Bool, s2 = os2 ∧ L' = [(1, .int .i64 a1), (2, .int .i64 a2), (3, .int .i64 a3), (4, .pointer (some ⟨b1, 0, none⟩)), (26, .bool s2)] ∧ G = G' ∧ [(b1, .cells #[.int .i64 a0.f0, .int .i64 a0.f1, .int .i64 a0.f2, .int .i64 a0.f3, .string a0.f4] 31 (0, 0))] :: Γ = Γ') ?_ ?_
  · clear hk3
    refine WP.region ?_
    refine WL.pure 0 1 [1, 2, 3, 4, 18] (L' := [(1, .int .i64 a1), (2, .int .i64 a2), (3, .int .i64 a3), (4, .pointer (some ⟨b1, 0, none⟩)), (18, .pointer (some ⟨b1, 4, none⟩))]) (by kernel_rfl) (by decide) ?_
    refine WL.tell (op := .load 9 (.tmp 18)) (ty := 9) (d := some 19) (g := none) (by kernel_rfl) (by kernel_rfl) (by kernel_rfl) (Tells.load_box (i := 0) (b := b1) (o := 4) (agg := false) (by rfl) ag9 (by kernel_rfl) (fun _ => rfl) (Nat.le_of_ble_eq_true rfl) (v := .string a0.f4) (by kernel_rfl)) ?_
    refine WL.pure 2 5 [1, 2, 3, 4, 22] (L' := [(1, .int .i64 a1), (2, .int .i64 a2), (3, .int .i64 a3), (4, .pointer (some ⟨b1, 0, none⟩)), (22, .bool (decide ((a0.f4.size : Int) > 300)))]) (by kernel_rfl) (by decide) ?_
    refine WL.split 22 (b := decide ((a0.f4.size : Int) > 300)) (by kernel_rfl) (fun hc => ?_) (fun hc => ?_)
    · replace hc := of_decide_eq_true hc
      rw [if_pos hc] at h
      have hc4 := hc
      clear hc
      refine WL.rest 5 [1, 2, 3, 4, 26] (L' := [(1, .int .i64 a1), (2, .int .i64 a2), (3, .int .i64 a3), (4, .pointer (some ⟨b1, 0, none⟩)), (26, .bool true)]) (by kernel_rfl) ?_
      refine QP.pick [1, 2, 3, 4, 26] ?_
      exact QP.meet ⟨_, Option.some.inj h, rfl, rfl, rfl⟩
    · replace hc := of_decide_eq_false hc
      rw [if_neg hc] at h
      have hc4 := hc
      clear hc
      refine WL.tell (op := .load 31 (.tmp 4)) (ty := 31) (d := some 23) (g := some (4, false)) (by kernel_rfl) (by kernel_rfl) (by kernel_rfl) (Tells.load_box (i := 0) (b := b1) (o := 0) (agg := true) (by rfl) ag31 (by kernel_rfl) (fun h => by cases h) (Nat.le_of_ble_eq_true rfl) (v := .agg #[.int .i64 a0.f0, .int .i64 a0.f1, .int .i64 a0.f2, .int .i64 a0.f3, .string a0.f4]) (by kernel_rfl)) ?_
      rw [Option.bind_eq_some_iff] at h
      obtain ⟨t5, ht6, h⟩ := h
      refine WL.op (op := .call { callee := (.value (.func 17)), args := #[(.tmp 23)], argTypes := #[31] }) (ty := 4) (d := some 24) (g := some (4, false)) (by kernel_rfl) (by kernel_rfl) (by kernel_rfl) (Does.call (f := 17) (args := [.agg #[.int .i64 a0.f0, .int .i64 a0.f1, .int .i64 a0.f2, .int .i64 a0.f3, .string a0.f4]]) (by kernel_rfl) (fun W hI => (record_May_calls HT a0  t5 ht6 hI))) ?_
      rintro _ _ _ ⟨rfl, rfl, rfl⟩
      refine WL.rest 7 [1, 2, 3, 4, 26] (L' := [(1, .int .i64 a1), (2, .int .i64 a2), (3, .int .i64 a3), (4, .pointer (some ⟨b1, 0, none⟩)), (26, .bool (!t5))]) (by kernel_rfl) ?_
      refine QP.pick [1, 2, 3, 4, 26] ?_
      exact QP.meet ⟨_, Option.some.inj h, rfl, rfl, rfl⟩
  · rintro _ _ _ ⟨s2, rfl, rfl, rfl, rfl⟩
    clear h
    replace h := hk3
    refine WP.cond (b := s2) (by kernel_rfl) (fun hc => ?_) (fun hc => ?_)
    · replace hc := hc
      rw [if_pos hc] at h
      have hc9 := hc
      clear hc
      refine WP.seqR ?_
      rw [Option.bind_eq_some_iff] at h
      obtain ⟨t10, ht11, h⟩ := h
      refine WL.op (op := .call { callee := (.value (.func 11)), args := #[], argTypes := #[] }) (ty := 4) (d := some 27) (g := none) (by kernel_rfl) (by kernel_rfl) (by kernel_rfl) (Does.call (f := 11) (args := []) (by kernel_rfl) (fun W hI => (grapevinelaw15_awake_calls HT k   t10 ht11 hI))) ?_
      rintro _ _ _ ⟨rfl, rfl, rfl⟩
      refine WL.restQ 1 [8] (L' := [(8, .bool t10)]) (by kernel_rfl) ?_
      refine WP.dropAt 0 ?_
      refine WP.ret ?_
      refine QP.thenR ?_
      obtain rfl := Option.some.inj h
      exact QP.returned [8] [.bool t10] _ (by kernel_rfl) (by kernel_rfl) (by kernel_rfl) (fun W hI => ⟨_, _, _, rfl, ⟨rfl, rfl, rfl⟩, hI⟩)
    · replace hc := (Bool.eq_false_iff.1 hc)
      rw [if_neg hc] at h
      have hc9 := hc
      clear hc
      refine WP.skip ?_
      refine QP.next ?_
      refine WP.pick [1, 2, 3, 4] ?_
      refine WP.seqR ?_
      refine WL.pure 0 1 [1, 2, 3, 4, 28] (L' := [(1, .int .i64 a1), (2, .int .i64 a2), (3, .int .i64 a3), (4, .pointer (some ⟨b1, 0, none⟩)), (28, .pointer (some ⟨b1, 4, none⟩))]) (by kernel_rfl) (by decide) ?_
      refine WL.tell (op := .load 9 (.tmp 28)) (ty := 9) (d := some 29) (g := none) (by kernel_rfl) (by kernel_rfl) (by kernel_rfl) (Tells.load_box (i := 0) (b := b1) (o := 4) (agg := false) (by rfl) ag9 (by kernel_rfl) (fun _ => rfl) (Nat.le_of_ble_eq_true rfl) (v := .string a0.f4) (by kernel_rfl)) ?_
      rw [Option.bind_eq_some_iff] at h
      obtain ⟨t14, ht15, h⟩ := h
      refine WL.op (op := .call { callee := (.value (.func 18)), args := #[(.tmp 29)], argTypes := #[9] }) (ty := 32) (d := some 30) (g := none) (by kernel_rfl) (by kernel_rfl) (by kernel_rfl) (Does.call (f := 18) (args := [.string a0.f4]) (by kernel_rfl) (fun W hI => (tokens_Of_calls HT k a0.f4  t14 ht15 hI))) ?_
      rintro _ _ _ ⟨AR16, cR16, CR16, rfl, HR16, rfl, rfl⟩
      refine WL.restQ 3 [1, 2, 3, 4, 9] (L' := [(1, .int .i64 a1), (2, .int .i64 a2), (3, .int .i64 a3), (4, .pointer (some ⟨b1, 0, none⟩)), (9, .slice AR16 t14.length cR16)]) (by kernel_rfl) ?_
      refine WP.seq ?_
      refine WP.seqP [1, 2, 3, 4, 9, 33] (L' := [(1, .int .i64 a1), (2, .int .i64 a2), (3, .int .i64 a3), (4, .pointer (some ⟨b1, 0, none⟩)), (9, .slice AR16 t14.length cR16), (33, .bool ((t14.length : Int) == 0))]) (by kernel_rfl) ?_
      refine WP.cond (b := ((t14.length : Int) == 0)) (by kernel_rfl) (fun hc => ?_) (fun hc => ?_)
      · replace hc := eq_of_beq hc
        rw [if_pos hc] at h
        have hc18 := hc
        clear hc
        refine WP.seqR ?_
        rw [Option.bind_eq_some_iff] at h
        obtain ⟨t19, ht20, h⟩ := h
        refine WL.op (op := .call { callee := (.value (.func 11)), args := #[], argTypes := #[] }) (ty := 4) (d := some 34) (g := none) (by kernel_rfl) (by kernel_rfl) (by kernel_rfl) (Does.call (f := 11) (args := []) (by kernel_rfl) (fun W hI => (grapevinelaw15_awake_calls HT k   t19 ht20 hI))) ?_
        rintro _ _ _ ⟨rfl, rfl, rfl⟩
        refine WL.restQ 1 [8] (L' := [(8, .bool t19)]) (by kernel_rfl) ?_
        refine WP.dropAt 1 ?_
        refine WP.dropAt 0 ?_
        refine WP.ret ?_
        refine QP.thenR ?_
        obtain rfl := Option.some.inj h
        exact QP.returned [8] [.bool t19] _ (by kernel_rfl) (by kernel_rfl) (by kernel_rfl) (fun W hI => ⟨_, _, _, rfl, ⟨rfl, rfl, rfl⟩, hI⟩)
      · replace hc := ne_of_beq_false hc
        rw [if_neg hc] at h
        have hc18 := hc
        clear hc
        refine WP.skip ?_
        refine QP.next ?_
        refine WP.pick [1, 2, 3, 4, 9] ?_
        refine WP.seqR ?_
        refine WL.pure 0 3 [1, 2, 3, 4, 9, 35, 37] (L' := [(1, .int .i64 a1), (2, .int .i64 a2), (3, .int .i64 a3), (4, .pointer (some ⟨b1, 0, none⟩)), (9, .slice AR16 t14.length cR16), (35, .int .i64 a1), (37, .int .i64 (t14.length : Int))]) (by kernel_rfl) (by decide) ?_
        rw [Option.bind_eq_some_iff] at h
        obtain ⟨t23, ht24, h⟩ := h
        refine WL.op (op := .call { callee := (.value (.func 19)), args := #[(.tmp 35), (.tmp 37)], argTypes := #[3, 3] }) (ty := 3) (d := some 38) (g := none) (by kernel_rfl) (by kernel_rfl) (by kernel_rfl) (Does.call (f := 19) (args := [.int .i64 a1, .int .i64 (t14.length : Int)]) (by kernel_rfl) (fun W hI => (grapevinelaw0_Low_calls a1 (t14.length : Int)  t23 ht24 hI))) ?_
        rintro _ _ _ ⟨rfl, rfl, rfl⟩
        refine WL.pure 4 7 [1, 2, 3, 4, 9, 38, 39, 41] (L' := [(1, .int .i64 a1), (2, .int .i64 a2), (3, .int .i64 a3), (4, .pointer (some ⟨b1, 0, none⟩)), (9, .slice AR16 t14.length cR16), (38, .int .i64 t23), (39, .int .i64 a2), (41, .int .i64 (t14.length : Int))]) (by kernel_rfl) (by decide) ?_
        rw [Option.bind_eq_some_iff] at h
        obtain ⟨t27, ht28, h⟩ := h
        refine WL.op (op := .call { callee := (.value (.func 19)), args := #[(.tmp 39), (.tmp 41)], argTypes := #[3, 3] }) (ty := 3) (d := some 42) (g := none) (by kernel_rfl) (by kernel_rfl) (by kernel_rfl) (Does.call (f := 19) (args := [.int .i64 a2, .int .i64 (t14.length : Int)]) (by kernel_rfl) (fun W hI => (grapevinelaw0_Low_calls a2 (t14.length : Int)  t27 ht28 hI))) ?_
        rintro _ _ _ ⟨rfl, rfl, rfl⟩
        refine WL.restQ 8 [1, 2, 3, 4, 9] (L' := [(1, .int .i64 t23), (2, .int .i64 t27), (3, .int .i64 a3), (4, .pointer (some ⟨b1, 0, none⟩)), (9, .slice AR16 t14.length cR16)]) (by kernel_rfl) ?_
        refine WP.seqP [3, 4, 9, 10, 11] (L' := [(3, .int .i64 a3), (4, .pointer (some ⟨b1, 0, none⟩)), (9, .slice AR16 t14.length cR16), (10, .int .i64 (if t27 < t23 then t27 else t23)), (11, .int .i64 (if t27 > t23 then t27 else t23))]) (by kernel_rfl) ?_
        refine WP.seqP [3, 4, 9, 10, 11, 12] (L' := [(3, .int .i64 a3), (4, .pointer (some ⟨b1, 0, none⟩)), (9, .slice AR16 t14.length cR16), (10, .int .i64 (if t27 < t23 then t27 else t23)), (11, .int .i64 (if t27 > t23 then t27 else t23)), (12, .slice none 0 0)]) (by kernel_rfl) ?_
        refine WP.seq ?_
        refine WP.seqP [3, 4, 9, 10, 11, 12, 13] (L' := [(3, .int .i64 a3), (4, .pointer (some ⟨b1, 0, none⟩)), (9, .slice AR16 t14.length cR16), (10, .int .i64 (if t27 < t23 then t27 else t23)), (11, .int .i64 (if t27 > t23 then t27 else t23)), (12, .slice none 0 0), (13, .int .i64 (if t27 < t23 then t27 else t23))]) (by kernel_rfl) ?_
        rw [Option.bind_eq_some_iff] at h
        obtain ⟨os31, h, hk32⟩ := h
        refine WP.cutQ (fun L' G' Γ' => ∃ s31 : (List ByteArray), s31 = os31 ∧ ∃ (As31 : Option Addr), ∃ (cs31 : Nat), ∃ (Cs31 : Chunk), L' = [(3, .int .i64 a3), (4, .pointer (some ⟨b1, 0, none⟩)), (9, .slice AR16 t14.length cR16), (10, .int .i64 (if t27 < t23 then t27 else t23)), (12, .slice As31 s31.length cs31)] ∧ G = G' ∧ Cs31 :: CR16 :: [(b1, .cells #[.int .i64 a0.f0, .int .i64 a0.f1, .int .i64 a0.f2, .int .i64 a0.f3, .string a0.f4] 31 (0, 0))] :: Γ = Γ' ∧ Ow kStr G As31 cs31 s31 Cs31) ?_ ?_
        · clear hk32
          refine WP.block ?_
          refine WP.addNil ?_
          refine WP.pick [3, 4, 9, 10, 11, 12, 13] ?_
          refine WP.loopF (fun kn35 L' G' Γ' => ∃ (y33 : List ByteArray), ∃ (y34 : Int), grapevinelaw15_DeemWords_l0 t14 t23 t27 kn35 y33 y34 = some os31 ∧ ∃ (Ay33 : Option Addr), ∃ (cy33 : Nat), ∃ (Cy33 : Chunk), L' = [(3, .int .i64 a3), (4, .pointer (some ⟨b1, 0, none⟩)), (9, .slice AR16 t14.length cR16), (10, .int .i64 (if t27 < t23 then t27 else t23)), (11, .int .i64 (if t27 > t23 then t27 else t23)), (12, .slice Ay33 y33.length cy33), (13, .int .i64 y34)] ∧ G = G' ∧ Cy33 :: CR16 :: [(b1, .cells #[.int .i64 a0.f0, .int .i64 a0.f1, .int .i64 a0.f2, .int .i64 a0.f3, .string a0.f4] 31 (0, 0))] :: Γ = Γ' ∧ Ow kStr G Ay33 cy33 y33 Cy33) ?_ k ⟨([] : List ByteArray), (if t27 < t23 then t27 else t23), h, none, 0, [], rfl, rfl, rfl, (Ow.nil kStr _)⟩
          clear h
          rintro kn36 _ _ _ ⟨y33, y34, h, Ay33, cy33, Cy33, rfl, rfl, rfl, Hy33⟩
          cases kn36 with
          | zero => exact absurd h (by simp [grapevinelaw15_DeemWords_l0])
          | succ kn36 =>
            simp only [grapevinelaw15_DeemWords_l0] at h
            refine WP.seq ?_
            refine WP.seqP [3, 4, 9, 10, 11, 12, 13, 52] (L' := [(3, .int .i64 a3), (4, .pointer (some ⟨b1, 0, none⟩)), (9, .slice AR16 t14.length cR16), (10, .int .i64 (if t27 < t23 then t27 else t23)), (11, .int .i64 (if t27 > t23 then t27 else t23)), (12, .slice Ay33 y33.length cy33), (13, .int .i64 y34), (52, .bool (decide (y34 ≤ (if t27 > t23 then t27 else t23))))]) (by kernel_rfl) ?_
            refine WP.cond (b := decide (y34 ≤ (if t27 > t23 then t27 else t23))) (by kernel_rfl) (fun hc => ?_) (fun hc => ?_)
            · replace hc := of_decide_eq_true hc
              rw [if_pos hc] at h
              have hc37 := hc
              clear hc
              refine WP.skip ?_
              refine QP.next ?_
              refine WP.pick [3, 4, 9, 10, 11, 12, 13] ?_
              refine WP.seq ?_
              refine WP.block ?_
              refine WP.region ?_
              refine WL.pure 0 3 [3, 4, 9, 10, 11, 12, 13, 55, 56, 57] (L' := [(3, .int .i64 a3), (4, .pointer (some ⟨b1, 0, none⟩)), (9, .slice AR16 t14.length cR16), (10, .int .i64 (if t27 < t23 then t27 else t23)), (11, .int .i64 (if t27 > t23 then t27 else t23)), (12, .slice Ay33 y33.length cy33), (13, .int .i64 y34), (55, .slice Ay33 y33.length cy33), (56, .slice AR16 t14.length cR16), (57, .int .i64 y34)]) (by kernel_rfl) (by decide) ?_
              by_cases hb38 : 0 ≤ y34 ∧ y34 < (t14.length : Int)
              case neg => rw [if_neg hb38] at h; cases h
              rw [if_pos hb38] at h
              refine WL.tell (op := .indexAddr 32 (.tmp 56) (.tmp 57)) (ty := 0) (d := some 58) (g := none) (by kernel_rfl) (by kernel_rfl) (by kernel_rfl) (Tells.indexAddr (A := AR16) (n := t14.length) (c := cR16) (k := .i64) (j := y34) (by kernel_rfl) (by kernel_rfl) (HR16.isSome hb38.1 hb38.2) hb38.1 hb38.2 sl32) ?_
              refine WL.tell (op := .fieldAddr 45 (.tmp 58) 0) (ty := 0) (d := some 59) (g := none) (by kernel_rfl) (by kernel_rfl) (by kernel_rfl) (Tells.fieldElem (m := y34.toNat * 2) (A := AR16) (by kernel_rfl) (HR16.isSome hb38.1 hb38.2) fi45_0) ?_
              refine WL.tellE (op := .load 9 (.tmp 59)) (ty := 9) (d := some 60) (g := none) (by kernel_rfl) (by kernel_rfl) (by kernel_rfl) (HR16.loadF (i := 1) rfl (agg := false) (off := 0) hb38.1 hb38.2 z45 ag9 (fun _ => rfl) (by decide) (by kernel_rfl)) ?_
              rintro _ rfl
              refine WL.op (op := .buildSlice 22 1 #[(0, (.tmp 60))]) (ty := 22) (d := some 61) (g := none) (by kernel_rfl) (by kernel_rfl) (by kernel_rfl) (Does.new (o := .cells #[.string ((t14.getD y34.toNat z45).f0)] 9 (0, 0)) (v := fun r => .slice (some ⟨r, 0, none⟩) 1 1) (fun r => by kernel_rfl)) ?_
              rintro _ _ _ ⟨b39, rfl, rfl, rfl⟩
              have Ho41 : Ow kStr G (some ⟨b39, 0, none⟩) 1 ([(t14.getD y34.toNat z45).f0] : List ByteArray) [(b39, .cells #[.string ((t14.getD y34.toNat z45).f0)] 9 (0, 0))] := Ow.lit (kd := kStr) (G := G) (b := b39) (T := 9) (xs := ([(t14.getD y34.toNat z45).f0] : List ByteArray)) (cs := [.string ((t14.getD y34.toNat z45).f0)]) (.cons (x := ((t14.getD y34.toNat z45).f0)) (cs := [.string ((t14.getD y34.toNat z45).f0)]) (by exact rfl) .nil)
              by_cases hb42 : y33.length + ([(t14.getD y34.toNat z45).f0] : List ByteArray).length ≤ 1073741824
              case neg => rw [if_neg hb42] at h; cases h
              rw [if_pos hb42] at h
              refine WL.op (op := .call { callee := (.builtin .append), args := #[(.tmp 55), (.tmp 61)], argTypes := #[22, 22] }) (ty := 22) (d := some 62) (g := none) (by kernel_rfl) (by kernel_rfl) (by kernel_rfl) (Ow.append (ys := ([(t14.getD y34.toNat z45).f0] : List ByteArray)) (v := .slice (some ⟨b39, 0, none⟩) ([(t14.getD y34.toNat z45).f0] : List ByteArray).length 1) Hy33 (i := 1) rfl (by kernel_rfl) (by kernel_rfl) (Ho41.src (i := 0) rfl) sl22 ze9 nt22 (by decide) hb42) ?_
              rintro _ _ _ ⟨rfl, AN43, cN43, CN43, rfl, HN43, rfl⟩
              refine WL.rest 8 [3, 4, 9, 10, 11, 12, 13] (L' := [(3, .int .i64 a3), (4, .pointer (some ⟨b1, 0, none⟩)), (9, .slice AR16 t14.length cR16), (10, .int .i64 (if t27 < t23 then t27 else t23)), (11, .int .i64 (if t27 > t23 then t27 else t23)), (12, .slice AN43 (y33 ++ ([(t14.getD y34.toNat z45).f0] : List ByteArray)).length cN43), (13, .int .i64 y34)]) (by kernel_rfl) ?_
              refine QP.blockN ?_
              refine QP.next ?_
              refine WP.pick [3, 4, 9, 10, 11, 12, 13] ?_
              refine WP.regionP [3, 4, 9, 10, 11, 12, 13] (L' := [(3, .int .i64 a3), (4, .pointer (some ⟨b1, 0, none⟩)), (9, .slice AR16 t14.length cR16), (10, .int .i64 (if t27 < t23 then t27 else t23)), (11, .int .i64 (if t27 > t23 then t27 else t23)), (12, .slice AN43 (y33 ++ ([(t14.getD y34.toNat z45).f0] : List ByteArray)).length cN43), (13, .int .i64 (IntKind.i64.wrap (y34 + 1)))]) (by kernel_rfl) ?_
              refine QP.dropAt 0 ?_
              refine QP.front (i := 2) rfl ?_
              refine QP.front (i := 2) rfl ?_
              refine QP.front (i := 2) rfl ?_
              refine QP.pick [3, 4, 9, 10, 11, 12, 13] ?_
              exact QP.meet ⟨kn36, Nat.lt_succ_self _, (y33 ++ ([(t14.getD y34.toNat z45).f0] : List ByteArray)), (IntKind.i64.wrap (y34 + 1)), h, AN43, cN43, CN43, rfl, rfl, rfl, HN43⟩
            · replace hc := of_decide_eq_false hc
              rw [if_neg hc] at h
              have hc37 := hc
              clear hc
              refine WP.exit ?_
              refine QP.thenE ?_
              refine QP.thenE ?_
              refine QP.blockE ?_
              refine QP.pick [3, 4, 9, 10, 12] ?_
              exact QP.meet ⟨_, Option.some.inj h, Ay33, cy33, Cy33, rfl, rfl, rfl, Hy33⟩
        · rintro _ _ _ ⟨s31, rfl, As31, cs31, Cs31, rfl, rfl, rfl, Hs31⟩
          clear h
          replace h := hk32
          refine QP.next ?_
          refine WP.pick [3, 4, 9, 10, 12] ?_
          refine WP.seqR ?_
          refine WL.pure 0 2 [3, 4, 9, 12, 63, 64] (L' := [(3, .int .i64 a3), (4, .pointer (some ⟨b1, 0, none⟩)), (9, .slice AR16 t14.length cR16), (12, .slice As31 s31.length cs31), (63, .slice AR16 t14.length cR16), (64, .int .i64 (if t27 < t23 then t27 else t23))]) (by kernel_rfl) (by decide) ?_
          by_cases hb44 : 0 ≤ (if t27 < t23 then t27 else t23) ∧ (if t27 < t23 then t27 else t23) < (t14.length : Int)
          case neg => rw [if_neg hb44] at h; cases h
          rw [if_pos hb44] at h
          refine WL.tell (op := .indexAddr 32 (.tmp 63) (.tmp 64)) (ty := 0) (d := some 65) (g := none) (by kernel_rfl) (by kernel_rfl) (by kernel_rfl) (Tells.indexAddr (A := AR16) (n := t14.length) (c := cR16) (k := .i64) (j := (if t27 < t23 then t27 else t23)) (by kernel_rfl) (by kernel_rfl) (HR16.isSome hb44.1 hb44.2) hb44.1 hb44.2 sl32) ?_
          refine WL.tell (op := .fieldAddr 45 (.tmp 65) 0) (ty := 0) (d := some 66) (g := none) (by kernel_rfl) (by kernel_rfl) (by kernel_rfl) (Tells.fieldElem (m := (if t27 < t23 then t27 else t23).toNat * 2) (A := AR16) (by kernel_rfl) (HR16.isSome hb44.1 hb44.2) fi45_0) ?_
          refine WL.tellE (op := .load 9 (.tmp 66)) (ty := 9) (d := some 67) (g := none) (by kernel_rfl) (by kernel_rfl) (by kernel_rfl) (HR16.loadF (i := 1) rfl (agg := false) (off := 0) hb44.1 hb44.2 z45 ag9 (fun _ => rfl) (by decide) (by kernel_rfl)) ?_
          rintro _ rfl
          refine WL.restQ 5 [3, 4, 9, 12, 14] (L' := [(3, .int .i64 a3), (4, .pointer (some ⟨b1, 0, none⟩)), (9, .slice AR16 t14.length cR16), (12, .slice As31 s31.length cs31), (14, .string ((t14.getD (if t27 < t23 then t27 else t23).toNat z45).f0))]) (by kernel_rfl) ?_
          obtain ⟨v45, hv46, h⟩ := Option.bind_eq_some_iff.1 h
          replace hv46 := Option.some.inj hv46
          refine WP.reput 14 (v := .string ((t14.getD (if t27 < t23 then t27 else t23).toNat z45).f0)) (v' := .string v45) (by kernel_rfl) (by subst hv46; rfl) ?_
          refine WP.pick [3, 4, 9, 12, 14] ?_
          refine WP.seq ?_
          refine WP.seqP [3, 4, 9, 12, 14, 69] (L' := [(3, .int .i64 a3), (4, .pointer (some ⟨b1, 0, none⟩)), (9, .slice AR16 t14.length cR16), (12, .slice As31 s31.length cs31), (14, .string v45), (69, .bool (v45.toList == (⟨#[]⟩ : ByteArray).toList))]) (by kernel_rfl) ?_
          refine WP.cond (b := (v45.toList == (⟨#[]⟩ : ByteArray).toList)) (by kernel_rfl) (fun hc => ?_) (fun hc => ?_)
          · replace hc := hc
            rw [if_pos hc] at h
            have hc47 := hc
            clear hc
            refine WP.seqP [8] (L' := [(8, .bool false)]) (by kernel_rfl) ?_
            refine WP.dropAt 2 ?_
            refine WP.dropAt 1 ?_
            refine WP.dropAt 0 ?_
            refine WP.ret ?_
            refine QP.thenR ?_
            obtain rfl := Option.some.inj h
            exact QP.returned [8] [.bool false] _ (by kernel_rfl) (by kernel_rfl) (by kernel_rfl) (fun W hI => ⟨_, _, _, rfl, ⟨rfl, rfl, rfl⟩, hI⟩)
          · replace hc := (Bool.eq_false_iff.1 hc)
            rw [if_neg hc] at h
            have hc47 := hc
            clear hc
            refine WP.skip ?_
            refine QP.next ?_
            refine WP.pick [3, 4, 9, 12, 14] ?_
            refine WP.seqR ?_
            refine WL.pure 0 1 [3, 4, 9, 12, 14, 70] (L' := [(3, .int .i64 a3), (4, .pointer (some ⟨b1, 0, none⟩)), (9, .slice AR16 t14.length cR16), (12, .slice As31 s31.length cs31), (14, .string v45), (70, .string v45)]) (by kernel_rfl) (by decide) ?_
            refine WL.op (op := .buildSlice 22 1 #[(0, (.tmp 70))]) (ty := 22) (d := some 71) (g := none) (by kernel_rfl) (by kernel_rfl) (by kernel_rfl) (Does.new (o := .cells #[.string v45] 9 (0, 0)) (v := fun r => .slice (some ⟨r, 0, none⟩) 1 1) (fun r => by kernel_rfl)) ?_
            rintro _ _ _ ⟨b48, rfl, rfl, rfl⟩
            have Ho50 : Ow kStr G (some ⟨b48, 0, none⟩) 1 ([v45] : List ByteArray) [(b48, .cells #[.string v45] 9 (0, 0))] := Ow.lit (kd := kStr) (G := G) (b := b48) (T := 9) (xs := ([v45] : List ByteArray)) (cs := [.string v45]) (.cons (x := v45) (cs := [.string v45]) (by exact rfl) .nil)
            refine WL.pure 2 3 [3, 4, 9, 12, 14, 72] (L' := [(3, .int .i64 a3), (4, .pointer (some ⟨b1, 0, none⟩)), (9, .slice AR16 t14.length cR16), (12, .slice As31 s31.length cs31), (14, .string v45), (72, .agg #[.int .i64 1, .int .i64 0, .slice (some ⟨b48, 0, none⟩) ([v45] : List ByteArray).length 1, .slice none 0 0])]) (by kernel_rfl) (by decide) ?_
            refine WL.op (op := .alloc 25) (ty := 0) (d := some 15) (g := none) (by kernel_rfl) (by kernel_rfl) (by kernel_rfl) (Does.new (o := .cells #[.int .i64 0, .int .i64 0, .slice none 0 0, .slice none 0 0] 25 (0, 0)) (v := fun r => .pointer (some ⟨r, 0, none⟩)) (fun r => by kernel_rfl)) ?_
            rintro _ _ _ ⟨b51, rfl, rfl, rfl⟩
            refine WL.op (op := .store 25 (.tmp 15) (.tmp 72)) (ty := 0) (d := none) (g := none) (by kernel_rfl) (by kernel_rfl) (by kernel_rfl) (Does.store_box (i := 0) (b := b51) (o := 0) (v := .agg #[.int .i64 1, .int .i64 0, .slice (some ⟨b48, 0, none⟩) ([v45] : List ByteArray).length 1, .slice none 0 0]) (by rfl) sz25 (by kernel_rfl) (by kernel_rfl) (by kernel_rfl) (Free.zero _) (Nat.le_of_ble_eq_true rfl) (cells' := #[.int .i64 1, .int .i64 0, .slice (some ⟨b48, 0, none⟩) ([v45] : List ByteArray).length 1, .slice none 0 0]) (by kernel_rfl)) ?_
            rintro _ _ _ ⟨rfl, rfl, rfl⟩
            refine WL.restQ 5 [3, 4, 9, 12, 14, 15] (L' := [(3, .int .i64 a3), (4, .pointer (some ⟨b1, 0, none⟩)), (9, .slice AR16 t14.length cR16), (12, .slice As31 s31.length cs31), (14, .string v45), (15, .pointer (some ⟨b51, 0, none⟩))]) (by kernel_rfl) ?_
            refine WP.seqR ?_
            refine WL.pure 0 4 [4, 9, 12, 15, 73, 74, 76] (L' := [(4, .pointer (some ⟨b1, 0, none⟩)), (9, .slice AR16 t14.length cR16), (12, .slice As31 s31.length cs31), (15, .pointer (some ⟨b51, 0, none⟩)), (73, .string v45), (74, .int .i64 a3), (76, .int .i64 (v45.size : Int))]) (by kernel_rfl) (by decide) ?_
            rw [Option.bind_eq_some_iff] at h
            obtain ⟨t52, ht53, h⟩ := h
            refine WL.op (op := .call { callee := (.value (.func 19)), args := #[(.tmp 74), (.tmp 76)], argTypes := #[3, 3] }) (ty := 3) (d := some 77) (g := none) (by kernel_rfl) (by kernel_rfl) (by kernel_rfl) (Does.call (f := 19) (args := [.int .i64 a3, .int .i64 (v45.size : Int)]) (by kernel_rfl) (fun W hI => (grapevinelaw0_Low_calls a3 (v45.size : Int)  t52 ht53 hI))) ?_
            rintro _ _ _ ⟨rfl, rfl, rfl⟩
            refine WL.pure 5 6 [4, 9, 12, 15, 73, 78] (L' := [(4, .pointer (some ⟨b1, 0, none⟩)), (9, .slice AR16 t14.length cR16), (12, .slice As31 s31.length cs31), (15, .pointer (some ⟨b51, 0, none⟩)), (73, .string v45), (78, .int .i64 (IntKind.i64.wrap (1 + t52)))]) (by kernel_rfl) (by decide) ?_
            by_cases hb56 : 0 ≤ (0 : Int) ∧ (0 : Int) ≤ (IntKind.i64.wrap (1 + t52)) ∧ (IntKind.i64.wrap (1 + t52)) ≤ (v45.size : Int)
            case neg => rw [if_neg hb56] at h; cases h
            rw [if_pos hb56] at h
            refine WL.tell (op := .slice 9 (.tmp 73) none (some (.tmp 78)) none) (ty := 9) (d := some 79) (g := none) (by kernel_rfl) (by kernel_rfl) (by kernel_rfl) (Tells.strPart (s := v45) (l := 0) (h := (IntKind.i64.wrap (1 + t52))) (by kernel_rfl) rfl ⟨.i64, by kernel_rfl⟩ hb56.1 hb56.2.1 hb56.2.2 st9) ?_
            refine WL.op (op := .buildSlice 22 1 #[(0, (.tmp 79))]) (ty := 22) (d := some 80) (g := none) (by kernel_rfl) (by kernel_rfl) (by kernel_rfl) (Does.new (o := .cells #[.string (v45.extract (0 : Int).toNat (IntKind.i64.wrap (1 + t52)).toNat)] 9 (0, 0)) (v := fun r => .slice (some ⟨r, 0, none⟩) 1 1) (fun r => by kernel_rfl)) ?_
            rintro _ _ _ ⟨b57, rfl, rfl, rfl⟩
            have Ho59 : Ow kStr G (some ⟨b57, 0, none⟩) 1 ([(v45.extract (0 : Int).toNat (IntKind.i64.wrap (1 + t52)).toNat)] : List ByteArray) [(b57, .cells #[.string (v45.extract (0 : Int).toNat (IntKind.i64.wrap (1 + t52)).toNat)] 9 (0, 0))] := Ow.lit (kd := kStr) (G := G) (b := b57) (T := 9) (xs := ([(v45.extract (0 : Int).toNat (IntKind.i64.wrap (1 + t52)).toNat)] : List ByteArray)) (cs := [.string (v45.extract (0 : Int).toNat (IntKind.i64.wrap (1 + t52)).toNat)]) (.cons (x := (v45.extract (0 : Int).toNat (IntKind.i64.wrap (1 + t52)).toNat)) (cs := [.string (v45.extract (0 : Int).toNat (IntKind.i64.wrap (1 + t52)).toNat)]) (by exact rfl) .nil)
            refine WL.pure 8 9 [4, 9, 12, 15, 81] (L' := [(4, .pointer (some ⟨b1, 0, none⟩)), (9, .slice AR16 t14.length cR16), (12, .slice As31 s31.length cs31), (15, .pointer (some ⟨b51, 0, none⟩)), (81, .agg #[.int .i64 2, .int .i64 0, .slice (some ⟨b57, 0, none⟩) ([(v45.extract (0 : Int).toNat (IntKind.i64.wrap (1 + t52)).toNat)] : List ByteArray).length 1, .slice none 0 0])]) (by kernel_rfl) (by decide) ?_
            refine WL.op (op := .alloc 25) (ty := 0) (d := some 16) (g := none) (by kernel_rfl) (by kernel_rfl) (by kernel_rfl) (Does.new (o := .cells #[.int .i64 0, .int .i64 0, .slice none 0 0, .slice none 0 0] 25 (0, 0)) (v := fun r => .pointer (some ⟨r, 0, none⟩)) (fun r => by kernel_rfl)) ?_
            rintro _ _ _ ⟨b60, rfl, rfl, rfl⟩
            refine WL.op (op := .store 25 (.tmp 16) (.tmp 81)) (ty := 0) (d := none) (g := none) (by kernel_rfl) (by kernel_rfl) (by kernel_rfl) (Does.store_box (i := 0) (b := b60) (o := 0) (v := .agg #[.int .i64 2, .int .i64 0, .slice (some ⟨b57, 0, none⟩) ([(v45.extract (0 : Int).toNat (IntKind.i64.wrap (1 + t52)).toNat)] : List ByteArray).length 1, .slice none 0 0]) (by rfl) sz25 (by kernel_rfl) (by kernel_rfl) (by kernel_rfl) (Free.zero _) (Nat.le_of_ble_eq_true rfl) (cells' := #[.int .i64 2, .int .i64 0, .slice (some ⟨b57, 0, none⟩) ([(v45.extract (0 : Int).toNat (IntKind.i64.wrap (1 + t52)).toNat)] : List ByteArray).length 1, .slice none 0 0]) (by kernel_rfl)) ?_
            rintro _ _ _ ⟨rfl, rfl, rfl⟩
            refine WL.restQ 11 [4, 9, 12, 15, 16] (L' := [(4, .pointer (some ⟨b1, 0, none⟩)), (9, .slice AR16 t14.length cR16), (12, .slice As31 s31.length cs31), (15, .pointer (some ⟨b51, 0, none⟩)), (16, .pointer (some ⟨b60, 0, none⟩))]) (by kernel_rfl) ?_
            refine WP.seqR ?_
            refine WL.pure 0 2 [4, 9, 12, 15, 16, 83] (L' := [(4, .pointer (some ⟨b1, 0, none⟩)), (9, .slice AR16 t14.length cR16), (12, .slice As31 s31.length cs31), (15, .pointer (some ⟨b51, 0, none⟩)), (16, .pointer (some ⟨b60, 0, none⟩)), (83, .agg #[.int .i64 3, .int .i64 0, .slice As31 s31.length cs31, .slice none 0 0])]) (by kernel_rfl) (by decide) ?_
            refine WL.op (op := .alloc 25) (ty := 0) (d := some 17) (g := none) (by kernel_rfl) (by kernel_rfl) (by kernel_rfl) (Does.new (o := .cells #[.int .i64 0, .int .i64 0, .slice none 0 0, .slice none 0 0] 25 (0, 0)) (v := fun r => .pointer (some ⟨r, 0, none⟩)) (fun r => by kernel_rfl)) ?_
            rintro _ _ _ ⟨b61, rfl, rfl, rfl⟩
            refine WL.op (op := .store 25 (.tmp 17) (.tmp 83)) (ty := 0) (d := none) (g := none) (by kernel_rfl) (by kernel_rfl) (by kernel_rfl) (Does.store_box (i := 0) (b := b61) (o := 0) (v := .agg #[.int .i64 3, .int .i64 0, .slice As31 s31.length cs31, .slice none 0 0]) (by rfl) sz25 (by kernel_rfl) (by kernel_rfl) (by kernel_rfl) (Free.zero _) (Nat.le_of_ble_eq_true rfl) (cells' := #[.int .i64 3, .int .i64 0, .slice As31 s31.length cs31, .slice none 0 0]) (by kernel_rfl)) ?_
            rintro _ _ _ ⟨rfl, rfl, rfl⟩
            refine WL.restQ 4 [4, 9, 12, 15, 16, 17] (L' := [(4, .pointer (some ⟨b1, 0, none⟩)), (9, .slice AR16 t14.length cR16), (12, .slice As31 s31.length cs31), (15, .pointer (some ⟨b51, 0, none⟩)), (16, .pointer (some ⟨b60, 0, none⟩)), (17, .pointer (some ⟨b61, 0, none⟩))]) (by kernel_rfl) ?_
            rw [Option.bind_eq_some_iff] at h
            obtain ⟨os62, h, hk63⟩ := h
            refine WP.cut (fun L' G' Γ' => ∃ s62 : Bool, s62 = os62 ∧ L' = [(8, .bool s62)] ∧ G = G' ∧ Γ = Γ') ?_ ?_
            · clear hk63
              skip
              refine WP.any (N := 31) (S := [⟨some 84, [9], []⟩, ⟨some 85, [12], []⟩, ⟨some 86, [84, 85], [0, 1]⟩, ⟨some 87, [86], [2]⟩, ⟨some 88, [15, 87], [3]⟩, ⟨some 89, [4, 87], [3]⟩, ⟨some 90, [87, 88, 89], [3, 4, 5]⟩, ⟨some 91, [15, 87], [3]⟩, ⟨some 92, [87, 91], [3, 6, 7]⟩, ⟨some 93, [87, 90, 92], [3, 6, 8]⟩, ⟨some 94, [87, 93], [3, 9]⟩, ⟨some 95, [94], [8, 10]⟩, ⟨some 96, [16, 95], [11]⟩, ⟨some 97, [4, 95], [11]⟩, ⟨some 98, [95, 96, 97], [11, 12, 13]⟩, ⟨some 99, [16, 95], [11]⟩, ⟨some 100, [95, 99], [11, 14, 15]⟩, ⟨some 101, [95, 98, 100], [11, 14, 16]⟩, ⟨some 102, [95, 101], [11, 17]⟩, ⟨some 103, [102], [16, 18]⟩, ⟨some 104, [17, 103], [19]⟩, ⟨some 105, [4, 103], [19]⟩, ⟨some 106, [103, 104, 105], [19, 20, 21]⟩, ⟨some 107, [17, 103], [19]⟩, ⟨some 108, [103, 107], [19, 22, 23]⟩, ⟨some 109, [103, 106, 108], [19, 22, 24]⟩, ⟨some 110, [103, 109], [19, 25]⟩, ⟨some 111, [110], [24, 26]⟩, ⟨some 112, [111], [27]⟩, ⟨some 113, [111, 112], [27, 28]⟩, ⟨some 8, [113], [0, 1, 2, 3, 4, 5, 6, 7, 8, 9, 10, 11, 12, 13, 14, 15, 16, 17, 18, 19, 20, 21, 22, 23, 24, 25, 26, 27, 28, 29]⟩]) (kw := 31) (G0 := G) (Γ0 := [(b61, .cells #[.int .i64 3, .int .i64 0, .slice As31 s31.length cs31, .slice none 0 0] 25 (0, 0))] :: [(b60, .cells #[.int .i64 2, .int .i64 0, .slice (some ⟨b57, 0, none⟩) ([(v45.extract (0 : Int).toNat (IntKind.i64.wrap (1 + t52)).toNat)] : List ByteArray).length 1, .slice none 0 0] 25 (0, 0))] :: [(b57, .cells #[.string (v45.extract (0 : Int).toNat (IntKind.i64.wrap (1 + t52)).toNat)] 9 (0, 0))] :: [(b51, .cells #[.int .i64 1, .int .i64 0, .slice (some ⟨b48, 0, none⟩) ([v45] : List ByteArray).length 1, .slice none 0 0] 25 (0, 0))] :: [(b48, .cells #[.string v45] 9 (0, 0))] :: Cs31 :: CR16 :: [(b1, .cells #[.int .i64 a0.f0, .int .i64 a0.f1, .int .i64 a0.f2, .int .i64 a0.f3, .string a0.f4] 31 (0, 0))] :: Γ) mo (by kernel_rfl) (fun hS => ?_)
              refine WA.pure [0, 1] [4, 15, 16, 17, 84, 85] (m := 29) (b' := 3) (L' := [(4, .pointer (some ⟨b1, 0, none⟩)), (15, .pointer (some ⟨b51, 0, none⟩)), (16, .pointer (some ⟨b60, 0, none⟩)), (17, .pointer (some ⟨b61, 0, none⟩)), (84, .slice AR16 t14.length cR16), (85, .slice As31 s31.length cs31)]) (by kernel_rfl) (NoPanic.then (NoPanic.body)) Under.refl hS (by kernel_rfl) ?_
              rw [Option.bind_eq_some_iff] at h
              obtain ⟨t64, ht65, h⟩ := h
              refine WA.op (i := 2) (m := 28) (b' := 7) (by kernel_rfl) hS (by kernel_rfl) (op := .call { callee := (.value (.func 14)), args := #[(.tmp 84), (.tmp 85)], argTypes := #[32, 22] }) (ty := 4) (d := some 86) (g := none) (by kernel_rfl) (by kernel_rfl) (by kernel_rfl) (Does.call (Φ := fun v' G' Γ' => v' = .bool t64 ∧ G = G' ∧ [(b61, .cells #[.int .i64 3, .int .i64 0, .slice As31 s31.length cs31, .slice none 0 0] 25 (0, 0))] :: [(b60, .cells #[.int .i64 2, .int .i64 0, .slice (some ⟨b57, 0, none⟩) ([(v45.extract (0 : Int).toNat (IntKind.i64.wrap (1 + t52)).toNat)] : List ByteArray).length 1, .slice none 0 0] 25 (0, 0))] :: [(b57, .cells #[.string (v45.extract (0 : Int).toNat (IntKind.i64.wrap (1 + t52)).toNat)] 9 (0, 0))] :: [(b51, .cells #[.int .i64 1, .int .i64 0, .slice (some ⟨b48, 0, none⟩) ([v45] : List ByteArray).length 1, .slice none 0 0] 25 (0, 0))] :: [(b48, .cells #[.string v45] 9 (0, 0))] :: Cs31 :: CR16 :: [(b1, .cells #[.int .i64 a0.f0, .int .i64 a0.f1, .int .i64 a0.f2, .int .i64 a0.f3, .string a0.f4] 31 (0, 0))] :: Γ = Γ') (f := 14) (args := [.slice AR16 t14.length cR16, .slice As31 s31.length cs31]) (by kernel_rfl) (fun W hI => (Calls.lendN (Φ := fun v' N => v' = .bool t64 ∧ N = []) (H := []) (i := 6) rfl hI (fun _ e l68 nl68 hI => by subst e; exact Calls.lendN (Φ := fun v' N => v' = .bool t64 ∧ N = []) (H := []) (i := 5) rfl hI (fun _ e l69 nl69 hI => by subst e; exact (((deem_Phrase_calls k t14 s31 AR16 cR16 ((HR16.rdN l68 nl68).mono l69) As31 cs31 ((Hs31.mono l68).rdN l69 nl69) t64 ht65 hI)).mono fun _ _ hr => by obtain ⟨_, _, _, rfl, hd, hI⟩ := hr; obtain ⟨rfl, rfl, rfl⟩ := hd; exact ⟨_, _, _, rfl, ⟨[], ⟨rfl, rfl⟩, rfl, rfl⟩, hI⟩)))).mono fun _ _ hr => by obtain ⟨_, _, _, rfl, ⟨_, hd, rfl, rfl⟩, hI⟩ := hr; obtain ⟨rfl, rfl⟩ := hd; exact ⟨_, _, _, rfl, ⟨rfl, rfl, rfl⟩, hI⟩)) ?_
              rintro _ _ _ ⟨rfl, rfl, rfl⟩
              refine ⟨_, _, Under.refl, Under.refl, ?_⟩
              refine WA.pure [3] [4, 15, 16, 17, 87] (m := 27) (b' := 15) (L' := [(4, .pointer (some ⟨b1, 0, none⟩)), (15, .pointer (some ⟨b51, 0, none⟩)), (16, .pointer (some ⟨b60, 0, none⟩)), (17, .pointer (some ⟨b61, 0, none⟩)), (87, .bool t64)]) (by kernel_rfl) (NoPanic.then (NoPanic.body)) Under.refl hS (by kernel_rfl) ?_
              refine WA.split 87 (b := t64) (by kernel_rfl) (fun hc => ?_) (fun hc => ?_)
              · replace hc := hc
                rw [if_pos hc] at h
                have hc70 := hc
                clear hc
                refine WA.tellD [] (i := 4) (m := 26) (b' := 31) (by kernel_rfl) (NoPanic.then (NoPanic.body)) Under.refl hS (by kernel_rfl) (op := .load 25 (.tmp 15)) (ty := 25) (d := some 88) (g := some (3, true)) (by kernel_rfl) (by kernel_rfl) (by kernel_rfl) (Tells.load_box (i := 3) (b := b51) (o := 0) (agg := true) (by rfl) ag25 (by kernel_rfl) (fun h => by cases h) (Nat.le_of_ble_eq_true rfl) (v := .agg #[.int .i64 1, .int .i64 0, .slice (some ⟨b48, 0, none⟩) ([v45] : List ByteArray).length 1, .slice none 0 0]) (by kernel_rfl)) ?_
                refine WA.tellD [] (i := 5) (m := 25) (b' := 63) (by kernel_rfl) (NoPanic.then (NoPanic.body)) Under.refl hS (by kernel_rfl) (op := .load 31 (.tmp 4)) (ty := 31) (d := some 89) (g := some (3, true)) (by kernel_rfl) (by kernel_rfl) (by kernel_rfl) (Tells.load_box (i := 7) (b := b1) (o := 0) (agg := true) (by rfl) ag31 (by kernel_rfl) (fun h => by cases h) (Nat.le_of_ble_eq_true rfl) (v := .agg #[.int .i64 a0.f0, .int .i64 a0.f1, .int .i64 a0.f2, .int .i64 a0.f3, .string a0.f4]) (by kernel_rfl)) ?_
                refine WA.tellD [] (i := 7) (m := 24) (b' := 191) (by kernel_rfl) (NoPanic.then (NoPanic.body)) Under.refl hS (by kernel_rfl) (op := .load 25 (.tmp 15)) (ty := 25) (d := some 91) (g := some (3, true)) (by kernel_rfl) (by kernel_rfl) (by kernel_rfl) (Tells.load_box (i := 3) (b := b51) (o := 0) (agg := true) (by rfl) ag25 (by kernel_rfl) (fun h => by cases h) (Nat.le_of_ble_eq_true rfl) (v := .agg #[.int .i64 1, .int .i64 0, .slice (some ⟨b48, 0, none⟩) ([v45] : List ByteArray).length 1, .slice none 0 0]) (by kernel_rfl)) ?_
                rw [Option.bind_eq_some_iff] at h
                obtain ⟨t71, ht72, h⟩ := h
                refine WA.op (i := 6) (m := 23) (b' := 255) (by kernel_rfl) hS (by kernel_rfl) (op := .call { callee := (.value (.func 12)), args := #[(.tmp 88), (.tmp 89)], argTypes := #[25, 31] }) (ty := 4) (d := some 90) (g := some (3, true)) (by kernel_rfl) (by kernel_rfl) (by kernel_rfl) (Does.call (Φ := fun v' G' Γ' => v' = .bool t71 ∧ G = G' ∧ [(b61, .cells #[.int .i64 3, .int .i64 0, .slice As31 s31.length cs31, .slice none 0 0] 25 (0, 0))] :: [(b60, .cells #[.int .i64 2, .int .i64 0, .slice (some ⟨b57, 0, none⟩) ([(v45.extract (0 : Int).toNat (IntKind.i64.wrap (1 + t52)).toNat)] : List ByteArray).length 1, .slice none 0 0] 25 (0, 0))] :: [(b57, .cells #[.string (v45.extract (0 : Int).toNat (IntKind.i64.wrap (1 + t52)).toNat)] 9 (0, 0))] :: [(b51, .cells #[.int .i64 1, .int .i64 0, .slice (some ⟨b48, 0, none⟩) ([v45] : List ByteArray).length 1, .slice none 0 0] 25 (0, 0))] :: [(b48, .cells #[.string v45] 9 (0, 0))] :: Cs31 :: CR16 :: [(b1, .cells #[.int .i64 a0.f0, .int .i64 a0.f1, .int .i64 a0.f2, .int .i64 a0.f3, .string a0.f4] 31 (0, 0))] :: Γ = Γ') (f := 12) (args := [.agg #[.int .i64 1, .int .i64 0, .slice (some ⟨b48, 0, none⟩) ([v45] : List ByteArray).length 1, .slice none 0 0], .agg #[.int .i64 a0.f0, .int .i64 a0.f1, .int .i64 a0.f2, .int .i64 a0.f3, .string a0.f4]]) (by kernel_rfl) (fun W hI => (Calls.lendN (Φ := fun v' N => v' = .bool t71 ∧ N = []) (H := []) (i := 4) rfl hI (fun _ e l75 nl75 hI => by subst e; exact (((deem_Holds_calls (HT.mono l75) k (⟨1, 0, ([v45] : List ByteArray), ([] : List T25)⟩ : T25) a0 (some ⟨b48, 0, none⟩) 1 (Ho50.rdN l75 nl75) none 0 (Rd.nil _ _ _ _) t71 ht72 hI)).mono fun _ _ hr => by obtain ⟨_, _, _, rfl, hd, hI⟩ := hr; obtain ⟨rfl, rfl, rfl⟩ := hd; exact ⟨_, _, _, rfl, ⟨[], ⟨rfl, rfl⟩, rfl, rfl⟩, hI⟩))).mono fun _ _ hr => by obtain ⟨_, _, _, rfl, ⟨_, hd, rfl, rfl⟩, hI⟩ := hr; obtain ⟨rfl, rfl⟩ := hd; exact ⟨_, _, _, rfl, ⟨rfl, rfl, rfl⟩, hI⟩)) ?_
                rintro _ _ _ ⟨rfl, rfl, rfl⟩
                refine ⟨_, _, Under.refl, Under.refl, ?_⟩
                rw [Option.bind_eq_some_iff] at h
                obtain ⟨t76, ht77, h⟩ := h
                refine WA.op (i := 8) (m := 22) (b' := 511) (by kernel_rfl) hS (by kernel_rfl) (op := .call { callee := (.value (.func 16)), args := #[(.tmp 91)], argTypes := #[25] }) (ty := 4) (d := some 92) (g := some (3, true)) (by kernel_rfl) (by kernel_rfl) (by kernel_rfl) (Does.call (Φ := fun v' G' Γ' => v' = .bool t76 ∧ G = G' ∧ [(b61, .cells #[.int .i64 3, .int .i64 0, .slice As31 s31.length cs31, .slice none 0 0] 25 (0, 0))] :: [(b60, .cells #[.int .i64 2, .int .i64 0, .slice (some ⟨b57, 0, none⟩) ([(v45.extract (0 : Int).toNat (IntKind.i64.wrap (1 + t52)).toNat)] : List ByteArray).length 1, .slice none 0 0] 25 (0, 0))] :: [(b57, .cells #[.string (v45.extract (0 : Int).toNat (IntKind.i64.wrap (1 + t52)).toNat)] 9 (0, 0))] :: [(b51, .cells #[.int .i64 1, .int .i64 0, .slice (some ⟨b48, 0, none⟩) ([v45] : List ByteArray).length 1, .slice none 0 0] 25 (0, 0))] :: [(b48, .cells #[.string v45] 9 (0, 0))] :: Cs31 :: CR16 :: [(b1, .cells #[.int .i64 a0.f0, .int .i64 a0.f1, .int .i64 a0.f2, .int .i64 a0.f3, .string a0.f4] 31 (0, 0))] :: Γ = Γ') (f := 16) (args := [.agg #[.int .i64 1, .int .i64 0, .slice (some ⟨b48, 0, none⟩) ([v45] : List ByteArray).length 1, .slice none 0 0]]) (by kernel_rfl) (fun W hI => (Calls.lendN (Φ := fun v' N => v' = .bool t76 ∧ N = []) (H := []) (i := 4) rfl hI (fun _ e l80 nl80 hI => by subst e; exact (((ask_May_calls (HT.mono l80) k (⟨1, 0, ([v45] : List ByteArray), ([] : List T25)⟩ : T25) (some ⟨b48, 0, none⟩) 1 (Ho50.rdN l80 nl80) none 0 (Rd.nil _ _ _ _) t76 ht77 hI)).mono fun _ _ hr => by obtain ⟨_, _, _, rfl, hd, hI⟩ := hr; obtain ⟨rfl, rfl, rfl⟩ := hd; exact ⟨_, _, _, rfl, ⟨[], ⟨rfl, rfl⟩, rfl, rfl⟩, hI⟩))).mono fun _ _ hr => by obtain ⟨_, _, _, rfl, ⟨_, hd, rfl, rfl⟩, hI⟩ := hr; obtain ⟨rfl, rfl⟩ := hd; exact ⟨_, _, _, rfl, ⟨rfl, rfl, rfl⟩, hI⟩)) ?_
                rintro _ _ _ ⟨rfl, rfl, rfl⟩
                refine ⟨_, _, Under.refl, Under.refl, ?_⟩
                refine WA.pure [9, 10, 11] [4, 16, 17, 95] (m := 19) (b' := 4095) (L' := [(4, .pointer (some ⟨b1, 0, none⟩)), (16, .pointer (some ⟨b60, 0, none⟩)), (17, .pointer (some ⟨b61, 0, none⟩)), (95, .bool (t71 == t76))]) (by kernel_rfl) (NoPanic.then (NoPanic.body)) Under.refl hS (by kernel_rfl) ?_
                refine WA.split 95 (b := (t71 == t76)) (by kernel_rfl) (fun hc => ?_) (fun hc => ?_)
                · replace hc := hc
                  rw [if_pos hc] at h
                  have hc81 := hc
                  clear hc
                  refine WA.tellD [] (i := 12) (m := 18) (b' := 8191) (by kernel_rfl) (NoPanic.then (NoPanic.body)) Under.refl hS (by kernel_rfl) (op := .load 25 (.tmp 16)) (ty := 25) (d := some 96) (g := some (11, true)) (by kernel_rfl) (by kernel_rfl) (by kernel_rfl) (Tells.load_box (i := 1) (b := b60) (o := 0) (agg := true) (by rfl) ag25 (by kernel_rfl) (fun h => by cases h) (Nat.le_of_ble_eq_true rfl) (v := .agg #[.int .i64 2, .int .i64 0, .slice (some ⟨b57, 0, none⟩) ([(v45.extract (0 : Int).toNat (IntKind.i64.wrap (1 + t52)).toNat)] : List ByteArray).length 1, .slice none 0 0]) (by kernel_rfl)) ?_
                  refine WA.tellD [] (i := 13) (m := 17) (b' := 16383) (by kernel_rfl) (NoPanic.then (NoPanic.body)) Under.refl hS (by kernel_rfl) (op := .load 31 (.tmp 4)) (ty := 31) (d := some 97) (g := some (11, true)) (by kernel_rfl) (by kernel_rfl) (by kernel_rfl) (Tells.load_box (i := 7) (b := b1) (o := 0) (agg := true) (by rfl) ag31 (by kernel_rfl) (fun h => by cases h) (Nat.le_of_ble_eq_true rfl) (v := .agg #[.int .i64 a0.f0, .int .i64 a0.f1, .int .i64 a0.f2, .int .i64 a0.f3, .string a0.f4]) (by kernel_rfl)) ?_
                  refine WA.tellD [] (i := 15) (m := 16) (b' := 49151) (by kernel_rfl) (NoPanic.then (NoPanic.body)) Under.refl hS (by kernel_rfl) (op := .load 25 (.tmp 16)) (ty := 25) (d := some 99) (g := some (11, true)) (by kernel_rfl) (by kernel_rfl) (by kernel_rfl) (Tells.load_box (i := 1) (b := b60) (o := 0) (agg := true) (by rfl) ag25 (by kernel_rfl) (fun h => by cases h) (Nat.le_of_ble_eq_true rfl) (v := .agg #[.int .i64 2, .int .i64 0, .slice (some ⟨b57, 0, none⟩) ([(v45.extract (0 : Int).toNat (IntKind.i64.wrap (1 + t52)).toNat)] : List ByteArray).length 1, .slice none 0 0]) (by kernel_rfl)) ?_
                  rw [Option.bind_eq_some_iff] at h
                  obtain ⟨t82, ht83, h⟩ := h
                  refine WA.op (i := 14) (m := 15) (b' := 65535) (by kernel_rfl) hS (by kernel_rfl) (op := .call { callee := (.value (.func 12)), args := #[(.tmp 96), (.tmp 97)], argTypes := #[25, 31] }) (ty := 4) (d := some 98) (g := some (11, true)) (by kernel_rfl) (by kernel_rfl) (by kernel_rfl) (Does.call (Φ := fun v' G' Γ' => v' = .bool t82 ∧ G = G' ∧ [(b61, .cells #[.int .i64 3, .int .i64 0, .slice As31 s31.length cs31, .slice none 0 0] 25 (0, 0))] :: [(b60, .cells #[.int .i64 2, .int .i64 0, .slice (some ⟨b57, 0, none⟩) ([(v45.extract (0 : Int).toNat (IntKind.i64.wrap (1 + t52)).toNat)] : List ByteArray).length 1, .slice none 0 0] 25 (0, 0))] :: [(b57, .cells #[.string (v45.extract (0 : Int).toNat (IntKind.i64.wrap (1 + t52)).toNat)] 9 (0, 0))] :: [(b51, .cells #[.int .i64 1, .int .i64 0, .slice (some ⟨b48, 0, none⟩) ([v45] : List ByteArray).length 1, .slice none 0 0] 25 (0, 0))] :: [(b48, .cells #[.string v45] 9 (0, 0))] :: Cs31 :: CR16 :: [(b1, .cells #[.int .i64 a0.f0, .int .i64 a0.f1, .int .i64 a0.f2, .int .i64 a0.f3, .string a0.f4] 31 (0, 0))] :: Γ = Γ') (f := 12) (args := [.agg #[.int .i64 2, .int .i64 0, .slice (some ⟨b57, 0, none⟩) ([(v45.extract (0 : Int).toNat (IntKind.i64.wrap (1 + t52)).toNat)] : List ByteArray).length 1, .slice none 0 0], .agg #[.int .i64 a0.f0, .int .i64 a0.f1, .int .i64 a0.f2, .int .i64 a0.f3, .string a0.f4]]) (by kernel_rfl) (fun W hI => (Calls.lendN (Φ := fun v' N => v' = .bool t82 ∧ N = []) (H := []) (i := 2) rfl hI (fun _ e l86 nl86 hI => by subst e; exact (((deem_Holds_calls (HT.mono l86) k (⟨2, 0, ([(v45.extract (0 : Int).toNat (IntKind.i64.wrap (1 + t52)).toNat)] : List ByteArray), ([] : List T25)⟩ : T25) a0 (some ⟨b57, 0, none⟩) 1 (Ho59.rdN l86 nl86) none 0 (Rd.nil _ _ _ _) t82 ht83 hI)).mono fun _ _ hr => by obtain ⟨_, _, _, rfl, hd, hI⟩ := hr; obtain ⟨rfl, rfl, rfl⟩ := hd; exact ⟨_, _, _, rfl, ⟨[], ⟨rfl, rfl⟩, rfl, rfl⟩, hI⟩))).mono fun _ _ hr => by obtain ⟨_, _, _, rfl, ⟨_, hd, rfl, rfl⟩, hI⟩ := hr; obtain ⟨rfl, rfl⟩ := hd; exact ⟨_, _, _, rfl, ⟨rfl, rfl, rfl⟩, hI⟩)) ?_
                  rintro _ _ _ ⟨rfl, rfl, rfl⟩
                  refine ⟨_, _, Under.refl, Under.refl, ?_⟩
                  rw [Option.bind_eq_some_iff] at h
                  obtain ⟨t87, ht88, h⟩ := h
                  refine WA.op (i := 16) (m := 14) (b' := 131071) (by kernel_rfl) hS (by kernel_rfl) (op := .call { callee := (.value (.func 16)), args := #[(.tmp 99)], argTypes := #[25] }) (ty := 4) (d := some 100) (g := some (11, true)) (by kernel_rfl) (by kernel_rfl) (by kernel_rfl) (Does.call (Φ := fun v' G' Γ' => v' = .bool t87 ∧ G = G' ∧ [(b61, .cells #[.int .i64 3, .int .i64 0, .slice As31 s31.length cs31, .slice none 0 0] 25 (0, 0))] :: [(b60, .cells #[.int .i64 2, .int .i64 0, .slice (some ⟨b57, 0, none⟩) ([(v45.extract (0 : Int).toNat (IntKind.i64.wrap (1 + t52)).toNat)] : List ByteArray).length 1, .slice none 0 0] 25 (0, 0))] :: [(b57, .cells #[.string (v45.extract (0 : Int).toNat (IntKind.i64.wrap (1 + t52)).toNat)] 9 (0, 0))] :: [(b51, .cells #[.int .i64 1, .int .i64 0, .slice (some ⟨b48, 0, none⟩) ([v45] : List ByteArray).length 1, .slice none 0 0] 25 (0, 0))] :: [(b48, .cells #[.string v45] 9 (0, 0))] :: Cs31 :: CR16 :: [(b1, .cells #[.int .i64 a0.f0, .int .i64 a0.f1, .int .i64 a0.f2, .int .i64 a0.f3, .string a0.f4] 31 (0, 0))] :: Γ = Γ') (f := 16) (args := [.agg #[.int .i64 2, .int .i64 0, .slice (some ⟨b57, 0, none⟩) ([(v45.extract (0 : Int).toNat (IntKind.i64.wrap (1 + t52)).toNat)] : List ByteArray).length 1, .slice none 0 0]]) (by kernel_rfl) (fun W hI => (Calls.lendN (Φ := fun v' N => v' = .bool t87 ∧ N = []) (H := []) (i := 2) rfl hI (fun _ e l91 nl91 hI => by subst e; exact (((ask_May_calls (HT.mono l91) k (⟨2, 0, ([(v45.extract (0 : Int).toNat (IntKind.i64.wrap (1 + t52)).toNat)] : List ByteArray), ([] : List T25)⟩ : T25) (some ⟨b57, 0, none⟩) 1 (Ho59.rdN l91 nl91) none 0 (Rd.nil _ _ _ _) t87 ht88 hI)).mono fun _ _ hr => by obtain ⟨_, _, _, rfl, hd, hI⟩ := hr; obtain ⟨rfl, rfl, rfl⟩ := hd; exact ⟨_, _, _, rfl, ⟨[], ⟨rfl, rfl⟩, rfl, rfl⟩, hI⟩))).mono fun _ _ hr => by obtain ⟨_, _, _, rfl, ⟨_, hd, rfl, rfl⟩, hI⟩ := hr; obtain ⟨rfl, rfl⟩ := hd; exact ⟨_, _, _, rfl, ⟨rfl, rfl, rfl⟩, hI⟩)) ?_
                  rintro _ _ _ ⟨rfl, rfl, rfl⟩
                  refine ⟨_, _, Under.refl, Under.refl, ?_⟩
                  refine WA.pure [17, 18, 19] [4, 17, 103] (m := 11) (b' := 1048575) (L' := [(4, .pointer (some ⟨b1, 0, none⟩)), (17, .pointer (some ⟨b61, 0, none⟩)), (103, .bool (t82 == t87))]) (by kernel_rfl) (NoPanic.then (NoPanic.body)) Under.refl hS (by kernel_rfl) ?_
                  refine WA.split 103 (b := (t82 == t87)) (by kernel_rfl) (fun hc => ?_) (fun hc => ?_)
                  · replace hc := hc
                    rw [if_pos hc] at h
                    have hc92 := hc
                    clear hc
                    refine WA.tellD [] (i := 20) (m := 10) (b' := 2097151) (by kernel_rfl) (NoPanic.then (NoPanic.body)) Under.refl hS (by kernel_rfl) (op := .load 25 (.tmp 17)) (ty := 25) (d := some 104) (g := some (19, true)) (by kernel_rfl) (by kernel_rfl) (by kernel_rfl) (Tells.load_box (i := 0) (b := b61) (o := 0) (agg := true) (by rfl) ag25 (by kernel_rfl) (fun h => by cases h) (Nat.le_of_ble_eq_true rfl) (v := .agg #[.int .i64 3, .int .i64 0, .slice As31 s31.length cs31, .slice none 0 0]) (by kernel_rfl)) ?_
                    refine WA.tellD [] (i := 21) (m := 9) (b' := 4194303) (by kernel_rfl) (NoPanic.then (NoPanic.body)) Under.refl hS (by kernel_rfl) (op := .load 31 (.tmp 4)) (ty := 31) (d := some 105) (g := some (19, true)) (by kernel_rfl) (by kernel_rfl) (by kernel_rfl) (Tells.load_box (i := 7) (b := b1) (o := 0) (agg := true) (by rfl) ag31 (by kernel_rfl) (fun h => by cases h) (Nat.le_of_ble_eq_true rfl) (v := .agg #[.int .i64 a0.f0, .int .i64 a0.f1, .int .i64 a0.f2, .int .i64 a0.f3, .string a0.f4]) (by kernel_rfl)) ?_
                    refine WA.tellD [] (i := 23) (m := 8) (b' := 12582911) (by kernel_rfl) (NoPanic.then (NoPanic.body)) Under.refl hS (by kernel_rfl) (op := .load 25 (.tmp 17)) (ty := 25) (d := some 107) (g := some (19, true)) (by kernel_rfl) (by kernel_rfl) (by kernel_rfl) (Tells.load_box (i := 0) (b := b61) (o := 0) (agg := true) (by rfl) ag25 (by kernel_rfl) (fun h => by cases h) (Nat.le_of_ble_eq_true rfl) (v := .agg #[.int .i64 3, .int .i64 0, .slice As31 s31.length cs31, .slice none 0 0]) (by kernel_rfl)) ?_
                    rw [Option.bind_eq_some_iff] at h
                    obtain ⟨t93, ht94, h⟩ := h
                    refine WA.op (i := 22) (m := 7) (b' := 16777215) (by kernel_rfl) hS (by kernel_rfl) (op := .call { callee := (.value (.func 12)), args := #[(.tmp 104), (.tmp 105)], argTypes := #[25, 31] }) (ty := 4) (d := some 106) (g := some (19, true)) (by kernel_rfl) (by kernel_rfl) (by kernel_rfl) (Does.call (Φ := fun v' G' Γ' => v' = .bool t93 ∧ G = G' ∧ [(b61, .cells #[.int .i64 3, .int .i64 0, .slice As31 s31.length cs31, .slice none 0 0] 25 (0, 0))] :: [(b60, .cells #[.int .i64 2, .int .i64 0, .slice (some ⟨b57, 0, none⟩) ([(v45.extract (0 : Int).toNat (IntKind.i64.wrap (1 + t52)).toNat)] : List ByteArray).length 1, .slice none 0 0] 25 (0, 0))] :: [(b57, .cells #[.string (v45.extract (0 : Int).toNat (IntKind.i64.wrap (1 + t52)).toNat)] 9 (0, 0))] :: [(b51, .cells #[.int .i64 1, .int .i64 0, .slice (some ⟨b48, 0, none⟩) ([v45] : List ByteArray).length 1, .slice none 0 0] 25 (0, 0))] :: [(b48, .cells #[.string v45] 9 (0, 0))] :: Cs31 :: CR16 :: [(b1, .cells #[.int .i64 a0.f0, .int .i64 a0.f1, .int .i64 a0.f2, .int .i64 a0.f3, .string a0.f4] 31 (0, 0))] :: Γ = Γ') (f := 12) (args := [.agg #[.int .i64 3, .int .i64 0, .slice As31 s31.length cs31, .slice none 0 0], .agg #[.int .i64 a0.f0, .int .i64 a0.f1, .int .i64 a0.f2, .int .i64 a0.f3, .string a0.f4]]) (by kernel_rfl) (fun W hI => (Calls.lendN (Φ := fun v' N => v' = .bool t93 ∧ N = []) (H := []) (i := 5) rfl hI (fun _ e l97 nl97 hI => by subst e; exact (((deem_Holds_calls (HT.mono l97) k (⟨3, 0, s31, ([] : List T25)⟩ : T25) a0 As31 cs31 (Hs31.rdN l97 nl97) none 0 (Rd.nil _ _ _ _) t93 ht94 hI)).mono fun _ _ hr => by obtain ⟨_, _, _, rfl, hd, hI⟩ := hr; obtain ⟨rfl, rfl, rfl⟩ := hd; exact ⟨_, _, _, rfl, ⟨[], ⟨rfl, rfl⟩, rfl, rfl⟩, hI⟩))).mono fun _ _ hr => by obtain ⟨_, _, _, rfl, ⟨_, hd, rfl, rfl⟩, hI⟩ := hr; obtain ⟨rfl, rfl⟩ := hd; exact ⟨_, _, _, rfl, ⟨rfl, rfl, rfl⟩, hI⟩)) ?_
                    rintro _ _ _ ⟨rfl, rfl, rfl⟩
                    refine ⟨_, _, Under.refl, Under.refl, ?_⟩
                    rw [Option.bind_eq_some_iff] at h
                    obtain ⟨t98, ht99, h⟩ := h
                    refine WA.op (i := 24) (m := 6) (b' := 33554431) (by kernel_rfl) hS (by kernel_rfl) (op := .call { callee := (.value (.func 16)), args := #[(.tmp 107)], argTypes := #[25] }) (ty := 4) (d := some 108) (g := some (19, true)) (by kernel_rfl) (by kernel_rfl) (by kernel_rfl) (Does.call (Φ := fun v' G' Γ' => v' = .bool t98 ∧ G = G' ∧ [(b61, .cells #[.int .i64 3, .int .i64 0, .slice As31 s31.length cs31, .slice none 0 0] 25 (0, 0))] :: [(b60, .cells #[.int .i64 2, .int .i64 0, .slice (some ⟨b57, 0, none⟩) ([(v45.extract (0 : Int).toNat (IntKind.i64.wrap (1 + t52)).toNat)] : List ByteArray).length 1, .slice none 0 0] 25 (0, 0))] :: [(b57, .cells #[.string (v45.extract (0 : Int).toNat (IntKind.i64.wrap (1 + t52)).toNat)] 9 (0, 0))] :: [(b51, .cells #[.int .i64 1, .int .i64 0, .slice (some ⟨b48, 0, none⟩) ([v45] : List ByteArray).length 1, .slice none 0 0] 25 (0, 0))] :: [(b48, .cells #[.string v45] 9 (0, 0))] :: Cs31 :: CR16 :: [(b1, .cells #[.int .i64 a0.f0, .int .i64 a0.f1, .int .i64 a0.f2, .int .i64 a0.f3, .string a0.f4] 31 (0, 0))] :: Γ = Γ') (f := 16) (args := [.agg #[.int .i64 3, .int .i64 0, .slice As31 s31.length cs31, .slice none 0 0]]) (by kernel_rfl) (fun W hI => (Calls.lendN (Φ := fun v' N => v' = .bool t98 ∧ N = []) (H := []) (i := 5) rfl hI (fun _ e l102 nl102 hI => by subst e; exact (((ask_May_calls (HT.mono l102) k (⟨3, 0, s31, ([] : List T25)⟩ : T25) As31 cs31 (Hs31.rdN l102 nl102) none 0 (Rd.nil _ _ _ _) t98 ht99 hI)).mono fun _ _ hr => by obtain ⟨_, _, _, rfl, hd, hI⟩ := hr; obtain ⟨rfl, rfl, rfl⟩ := hd; exact ⟨_, _, _, rfl, ⟨[], ⟨rfl, rfl⟩, rfl, rfl⟩, hI⟩))).mono fun _ _ hr => by obtain ⟨_, _, _, rfl, ⟨_, hd, rfl, rfl⟩, hI⟩ := hr; obtain ⟨rfl, rfl⟩ := hd; exact ⟨_, _, _, rfl, ⟨rfl, rfl, rfl⟩, hI⟩)) ?_
                    rintro _ _ _ ⟨rfl, rfl, rfl⟩
                    refine ⟨_, _, Under.refl, Under.refl, ?_⟩
                    refine WA.pure [25, 26, 27] [111] (m := 3) (b' := 268435455) (L' := [(111, .bool (t93 == t98))]) (by kernel_rfl) (NoPanic.then (NoPanic.body)) Under.refl hS (by kernel_rfl) ?_
                    refine WA.split 111 (b := (t93 == t98)) (by kernel_rfl) (fun hc => ?_) (fun hc => ?_)
                    · replace hc := hc
                      rw [if_pos hc] at h
                      have hc103 := hc
                      clear hc
                      rw [Option.bind_eq_some_iff] at h
                      obtain ⟨t104, ht105, h⟩ := h
                      refine WA.op (i := 28) (m := 2) (b' := 536870911) (by kernel_rfl) hS (by kernel_rfl) (op := .call { callee := (.value (.func 11)), args := #[], argTypes := #[] }) (ty := 4) (d := some 112) (g := some (27, true)) (by kernel_rfl) (by kernel_rfl) (by kernel_rfl) (Does.call (f := 11) (args := []) (by kernel_rfl) (fun W hI => (grapevinelaw15_awake_calls HT k   t104 ht105 hI))) ?_
                      rintro _ _ _ ⟨rfl, rfl, rfl⟩
                      refine ⟨_, _, Under.refl, Under.refl, ?_⟩
                      refine WA.pure [29, 30] [8] (m := 0) (b' := 2147483647) (L' := [(8, .bool t104)]) (by kernel_rfl) (NoPanic.then (NoPanic.body)) Under.refl hS (by kernel_rfl) ?_
                      refine WA.done hS (by kernel_rfl) ?_
                      refine QP.pick [8] ?_
                      refine QP.dropAt 7 ?_
                      refine QP.dropAt 6 ?_
                      refine QP.dropAt 5 ?_
                      refine QP.dropAt 4 ?_
                      refine QP.dropAt 3 ?_
                      refine QP.dropAt 2 ?_
                      refine QP.dropAt 1 ?_
                      refine QP.dropAt 0 ?_
                      refine QP.pick [8] ?_
                      exact QP.meet ⟨_, Option.some.inj h, rfl, rfl, rfl⟩
                    · replace hc := (Bool.eq_false_iff.1 hc)
                      rw [if_neg hc] at h
                      have hc103 := hc
                      clear hc
                      refine WA.pure [28, 29, 30] [8] (m := 0) (b' := 2147483647) (L' := [(8, .bool false)]) (by kernel_rfl) (NoPanic.then (NoPanic.body)) Under.refl hS (by kernel_rfl) ?_
                      refine WA.done hS (by kernel_rfl) ?_
                      refine QP.pick [8] ?_
                      refine QP.dropAt 7 ?_
                      refine QP.dropAt 6 ?_
                      refine QP.dropAt 5 ?_
                      refine QP.dropAt 4 ?_
                      refine QP.dropAt 3 ?_
                      refine QP.dropAt 2 ?_
                      refine QP.dropAt 1 ?_
                      refine QP.dropAt 0 ?_
                      refine QP.pick [8] ?_
                      exact QP.meet ⟨_, Option.some.inj h, rfl, rfl, rfl⟩
                  · replace hc := (Bool.eq_false_iff.1 hc)
                    rw [if_neg hc] at h
                    have hc92 := hc
                    clear hc
                    refine WA.pure [20, 21, 22, 23, 24, 25, 26, 27, 28, 29, 30] [8] (m := 0) (b' := 2147483647) (L' := [(8, .bool false)]) (by kernel_rfl) (NoPanic.then (NoPanic.body)) Under.refl hS (by kernel_rfl) ?_
                    refine WA.done hS (by kernel_rfl) ?_
                    refine QP.pick [8] ?_
                    refine QP.dropAt 7 ?_
                    refine QP.dropAt 6 ?_
                    refine QP.dropAt 5 ?_
                    refine QP.dropAt 4 ?_
                    refine QP.dropAt 3 ?_
                    refine QP.dropAt 2 ?_
                    refine QP.dropAt 1 ?_
                    refine QP.dropAt 0 ?_
                    refine QP.pick [8] ?_
                    exact QP.meet ⟨_, Option.some.inj h, rfl, rfl, rfl⟩
                · replace hc := (Bool.eq_false_iff.1 hc)
                  rw [if_neg hc] at h
                  have hc81 := hc
                  clear hc
                  refine WA.pure [12, 13, 14, 15, 16, 17, 18, 19, 20, 21, 22, 23, 24, 25, 26, 27, 28, 29, 30] [8] (m := 0) (b' := 2147483647) (L' := [(8, .bool false)]) (by kernel_rfl) (NoPanic.then (NoPanic.body)) Under.refl hS (by kernel_rfl) ?_
                  refine WA.done hS (by kernel_rfl) ?_
                  refine QP.pick [8] ?_
                  refine QP.dropAt 7 ?_
                  refine QP.dropAt 6 ?_
                  refine QP.dropAt 5 ?_
                  refine QP.dropAt 4 ?_
                  refine QP.dropAt 3 ?_
                  refine QP.dropAt 2 ?_
                  refine QP.dropAt 1 ?_
                  refine QP.dropAt 0 ?_
                  refine QP.pick [8] ?_
                  exact QP.meet ⟨_, Option.some.inj h, rfl, rfl, rfl⟩
              · replace hc := (Bool.eq_false_iff.1 hc)
                rw [if_neg hc] at h
                have hc70 := hc
                clear hc
                refine WA.pure [4, 5, 6, 7, 8, 9, 10, 11, 12, 13, 14, 15, 16, 17, 18, 19, 20, 21, 22, 23, 24, 25, 26, 27, 28, 29, 30] [8] (m := 0) (b' := 2147483647) (L' := [(8, .bool false)]) (by kernel_rfl) (NoPanic.then (NoPanic.body)) Under.refl hS (by kernel_rfl) ?_
                refine WA.done hS (by kernel_rfl) ?_
                refine QP.pick [8] ?_
                refine QP.dropAt 7 ?_
                refine QP.dropAt 6 ?_
                refine QP.dropAt 5 ?_
                refine QP.dropAt 4 ?_
                refine QP.dropAt 3 ?_
                refine QP.dropAt 2 ?_
                refine QP.dropAt 1 ?_
                refine QP.dropAt 0 ?_
                refine QP.pick [8] ?_
                exact QP.meet ⟨_, Option.some.inj h, rfl, rfl, rfl⟩
            · rintro _ _ _ ⟨s62, rfl, rfl, rfl, rfl⟩
              clear h
              replace h := hk63
              refine WP.ret ?_
              obtain rfl := Option.some.inj h
              exact QP.returned [8] [.bool s62] _ (by kernel_rfl) (by kernel_rfl) (by kernel_rfl) (fun W hI => ⟨_, _, _, rfl, ⟨rfl, rfl, rfl⟩, hI⟩)
/-- The plain law. -/
def DeemWords_Pure : Prop := ∀ (a0 : T31) (a1 : Int) (a2 : Int) (a3 : Int), ((Lit.int .i64 a0.f0).wf = true ∧ (Lit.int .i64 a0.f1).wf = true ∧ (Lit.int .i64 a0.f2).wf = true ∧ (Lit.int .i64 a0.f3).wf = true ∧ a0.f4.size ≤ maxLen) → (Lit.int .i64 a1).wf = true → (Lit.int .i64 a2).wf = true → (Lit.int .i64 a3).wf = true → ∃ k, grapevinelaw15_DeemWords k a0 a1 a2 a3 = some true
end Go.Proofs.YtbphlohiealbeaaDoor.Gf
