/- Walks of Go functions: what each tells, as a plain Lean function, and that the Go code comes to it. Written by gg.py of this repo. -/
import Derived.Test.YtajhihpaccggdaaDoorT
import Derived.Test.YtajhihpaccggdaaDoorF1
namespace Go.Proofs.YtajhihpaccggdaaDoor.Gf
open Go Go.Gg
set_option maxRecDepth 100000
set_option linter.unusedVariables false
set_option linter.unusedSimpArgs false

/-! ### grapevine/grapevineref4.Num: function 65 -/
def grapevineref4_Num_l0 (a1 : Int) : Nat → (List Int) → Int → Option (List Int)
  | 0, _, _ => none
  | k + 1, y3, y4 => (if y4 ≥ 0 then (if 0 ≤ (IntKind.i64.wrap (8 * y4)) then (if y3.length + ([IntKind.u8.wrap (shrK .i64 a1 (IntKind.i64.wrap (8 * y4)))] : List Int).length ≤ 1073741824 then grapevineref4_Num_l0 a1 k (y3 ++ ([IntKind.u8.wrap (shrK .i64 a1 (IntKind.i64.wrap (8 * y4)))] : List Int)) (IntKind.i64.wrap (y4 - 1)) else none) else none) else some y3)
def grapevineref4_Num (k : Nat) (l0 : List Int) (a1 : Int) (a2 : Int) : Option (List Int) := ((grapevineref4_Num_l0 a1 k l0 (IntKind.i64.wrap (a2 - 1))).bind fun s1 => some s1)
set_option maxHeartbeats 4000000 in
theorem grapevineref4_Num_calls {B : World} {G : GMap} {Γ : List Chunk} {W : World} (k : Nat) (l0 : List Int) (a1 : Int) (a2 : Int) (Al0 : Option Addr) (cl0 : Nat) (Cl0 : Chunk) (Hl0 : Ow (kInt .u8) G Al0 cl0 l0 Cl0) (r : List Int) (h : grapevineref4_Num k l0 a1 a2 = some r) (hI : Inv B G (Cl0 :: Γ) W) :
    Calls Tryd.prog 65 [.slice Al0 l0.length cl0, .int .i64 a1, .int .i64 a2].toArray W (Ret B (fun v G' Γ' => ∃ (AR : Option Addr), ∃ (cR : Nat), ∃ (CR : Chunk), v = .slice AR r.length cR ∧ Ow (kInt .u8) G' AR cR r CR ∧ G = G' ∧ CR :: Γ = Γ')) := by
  refine calls_WP (Γ := Cl0 :: Γ) (G := G) (B := B) Tryd.func65 rfl (by kernel_rfl) ?_ hI
  clear hI
  unfold grapevineref4_Num at h
  refine WP.seqP [0, 1, 2] (L' := [(0, .slice Al0 l0.length cl0), (1, .int .i64 a1), (2, .int .i64 a2)]) (by kernel_rfl) ?_
  refine WP.seq ?_
  refine WP.seqP [0, 1, 7] (L' := [(0, .slice Al0 l0.length cl0), (1, .int .i64 a1), (7, .int .i64 (IntKind.i64.wrap (a2 - 1)))]) (by kernel_rfl) ?_
  rw [Option.bind_eq_some_iff] at h
  obtain ⟨os1, h, hk2⟩ := h
  refine WP.cutQ (fun L' G' Γ' => ∃ s1 : (List Int), s1 = os1 ∧ ∃ (As1 : Option Addr), ∃ (cs1 : Nat), ∃ (Cs1 : Chunk), L' = [(0, .slice As1 s1.length cs1)] ∧ G = G' ∧ Cs1 :: Γ = Γ' ∧ Ow (kInt .u8) G As1 cs1 s1 Cs1) ?_ ?_
  · clear hk2
    refine WP.block ?_
    refine WP.pick [0, 1, 7] ?_
    refine WP.loopF (fun kn5 L' G' Γ' => ∃ (y3 : List Int), ∃ (y4 : Int), grapevineref4_Num_l0 a1 kn5 y3 y4 = some os1 ∧ ∃ (Ay3 : Option Addr), ∃ (cy3 : Nat), ∃ (Cy3 : Chunk), L' = [(0, .slice Ay3 y3.length cy3), (1, .int .i64 a1), (7, .int .i64 y4)] ∧ G = G' ∧ Cy3 :: Γ = Γ' ∧ Ow (kInt .u8) G Ay3 cy3 y3 Cy3) ?_ k ⟨l0, (IntKind.i64.wrap (a2 - 1)), h, Al0, cl0, Cl0, rfl, rfl, rfl, Hl0⟩
    clear h
    rintro kn6 _ _ _ ⟨y3, y4, h, Ay3, cy3, Cy3, rfl, rfl, rfl, Hy3⟩
    cases kn6 with
    | zero => exact absurd h (by simp [grapevineref4_Num_l0])
    | succ kn6 =>
      simp only [grapevineref4_Num_l0] at h
      refine WP.seq ?_
      refine WP.seqP [0, 1, 7, 11] (L' := [(0, .slice Ay3 y3.length cy3), (1, .int .i64 a1), (7, .int .i64 y4), (11, .bool (decide (y4 ≥ 0)))]) (by kernel_rfl) ?_
      refine WP.cond (b := decide (y4 ≥ 0)) (by kernel_rfl) (fun hc => ?_) (fun hc => ?_)
      · replace hc := of_decide_eq_true hc
        rw [if_pos hc] at h
        have hc7 := hc
        clear hc
        refine WP.skip ?_
        refine QP.next ?_
        refine WP.pick [0, 1, 7] ?_
        refine WP.seq ?_
        refine WP.block ?_
        refine WP.region ?_
        refine WL.pure 0 4 [0, 1, 7, 14, 15, 17] (L' := [(0, .slice Ay3 y3.length cy3), (1, .int .i64 a1), (7, .int .i64 y4), (14, .slice Ay3 y3.length cy3), (15, .int .i64 a1), (17, .int .i64 (IntKind.i64.wrap (8 * y4)))]) (by kernel_rfl) (by decide) ?_
        by_cases hb8 : 0 ≤ (IntKind.i64.wrap (8 * y4))
        case neg => rw [if_neg hb8] at h; cases h
        rw [if_pos hb8] at h
        refine WL.tell (op := .binOp .shr 3 (.tmp 15) (.tmp 17) 3) (ty := 3) (d := some 18) (g := none) (by kernel_rfl) (by kernel_rfl) (by kernel_rfl) (Tells.shr (k := .i64) (k' := .i64) (a := a1) (b := (IntKind.i64.wrap (8 * y4))) (by kernel_rfl) (by kernel_rfl) hb8) ?_
        refine WL.pure 5 6 [0, 1, 7, 14, 19] (L' := [(0, .slice Ay3 y3.length cy3), (1, .int .i64 a1), (7, .int .i64 y4), (14, .slice Ay3 y3.length cy3), (19, .int .u8 (IntKind.u8.wrap (shrK .i64 a1 (IntKind.i64.wrap (8 * y4)))))]) (by kernel_rfl) (by decide) ?_
        refine WL.op (op := .buildSlice 55 1 #[(0, (.tmp 19))]) (ty := 55) (d := some 20) (g := none) (by kernel_rfl) (by kernel_rfl) (by kernel_rfl) (Does.new (o := .cells #[.int .u8 (IntKind.u8.wrap (shrK .i64 a1 (IntKind.i64.wrap (8 * y4))))] 5 (0, 0)) (v := fun r => .slice (some ⟨r, 0, none⟩) 1 1) (fun r => by kernel_rfl)) ?_
        rintro _ _ _ ⟨b9, rfl, rfl, rfl⟩
        have Ho11 : Ow (kInt .u8) G (some ⟨b9, 0, none⟩) 1 ([IntKind.u8.wrap (shrK .i64 a1 (IntKind.i64.wrap (8 * y4)))] : List Int) [(b9, .cells #[.int .u8 (IntKind.u8.wrap (shrK .i64 a1 (IntKind.i64.wrap (8 * y4))))] 5 (0, 0))] := Ow.lit (kd := (kInt .u8)) (G := G) (b := b9) (T := 5) (xs := ([IntKind.u8.wrap (shrK .i64 a1 (IntKind.i64.wrap (8 * y4)))] : List Int)) (cs := [.int .u8 (IntKind.u8.wrap (shrK .i64 a1 (IntKind.i64.wrap (8 * y4))))]) (.cons (x := (IntKind.u8.wrap (shrK .i64 a1 (IntKind.i64.wrap (8 * y4))))) (cs := [.int .u8 (IntKind.u8.wrap (shrK .i64 a1 (IntKind.i64.wrap (8 * y4))))]) (by exact rfl) .nil)
        by_cases hb12 : y3.length + ([IntKind.u8.wrap (shrK .i64 a1 (IntKind.i64.wrap (8 * y4)))] : List Int).length ≤ 1073741824
        case neg => rw [if_neg hb12] at h; cases h
        rw [if_pos hb12] at h
        refine WL.op (op := .call { callee := (.builtin .append), args := #[(.tmp 14), (.tmp 20)], argTypes := #[55, 55] }) (ty := 55) (d := some 21) (g := none) (by kernel_rfl) (by kernel_rfl) (by kernel_rfl) (Ow.append (ys := ([IntKind.u8.wrap (shrK .i64 a1 (IntKind.i64.wrap (8 * y4)))] : List Int)) (v := .slice (some ⟨b9, 0, none⟩) ([IntKind.u8.wrap (shrK .i64 a1 (IntKind.i64.wrap (8 * y4)))] : List Int).length 1) Hy3 (i := 1) rfl (by kernel_rfl) (by kernel_rfl) (Ho11.src (i := 0) rfl) sl55 ze5 nt55 (by decide) hb12) ?_
        rintro _ _ _ ⟨rfl, AN13, cN13, CN13, rfl, HN13, rfl⟩
        refine WL.rest 8 [0, 1, 7] (L' := [(0, .slice AN13 (y3 ++ ([IntKind.u8.wrap (shrK .i64 a1 (IntKind.i64.wrap (8 * y4)))] : List Int)).length cN13), (1, .int .i64 a1), (7, .int .i64 y4)]) (by kernel_rfl) ?_
        refine QP.blockN ?_
        refine QP.next ?_
        refine WP.pick [0, 1, 7] ?_
        refine WP.regionP [0, 1, 7] (L' := [(0, .slice AN13 (y3 ++ ([IntKind.u8.wrap (shrK .i64 a1 (IntKind.i64.wrap (8 * y4)))] : List Int)).length cN13), (1, .int .i64 a1), (7, .int .i64 (IntKind.i64.wrap (y4 - 1)))]) (by kernel_rfl) ?_
        refine QP.dropAt 0 ?_
        refine QP.pick [0, 1, 7] ?_
        exact QP.meet ⟨kn6, Nat.lt_succ_self _, (y3 ++ ([IntKind.u8.wrap (shrK .i64 a1 (IntKind.i64.wrap (8 * y4)))] : List Int)), (IntKind.i64.wrap (y4 - 1)), h, AN13, cN13, CN13, rfl, rfl, rfl, HN13⟩
      · replace hc := of_decide_eq_false hc
        rw [if_neg hc] at h
        have hc7 := hc
        clear hc
        refine WP.exit ?_
        refine QP.thenE ?_
        refine QP.thenE ?_
        refine QP.blockE ?_
        refine QP.pick [0] ?_
        exact QP.meet ⟨_, Option.some.inj h, Ay3, cy3, Cy3, rfl, rfl, rfl, Hy3⟩
  · rintro _ _ _ ⟨s1, rfl, As1, cs1, Cs1, rfl, rfl, rfl, Hs1⟩
    clear h
    replace h := hk2
    refine QP.next ?_
    refine WP.pick [0] ?_
    refine WP.seqP [6] (L' := [(6, .slice As1 s1.length cs1)]) (by kernel_rfl) ?_
    refine WP.ret ?_
    obtain rfl := Option.some.inj h
    exact QP.returned [6] [.slice As1 s1.length cs1] _ (by kernel_rfl) (by kernel_rfl) (by kernel_rfl) (fun W hI => ⟨_, _, _, rfl, ⟨As1, cs1, Cs1, rfl, Hs1, rfl, rfl⟩, hI⟩)

/-! ### grapevine/grapevineref4.Lay: function 29 -/
def grapevineref4_Lay (k : Nat) (a0 : T36) : Option ((List Int) × Int) := ((grapevineref4_May a0).bind fun t2 => (if (!t2) = true then some (([] : List Int), 2) else ((grapevineref4_Num k ([] : List Int) a0.f0 1).bind fun t7 => ((grapevineref4_Num k t7 a0.f1 2).bind fun t11 => ((grapevineref4_Num k t11 a0.f2 6).bind fun t15 => ((grapevineref4_Num k t15 a0.f3 2).bind fun t19 => ((grapevineref4_Num k t19 (a0.f4.size : Int) 1).bind fun t23 => (if t23.length + (bytesOf a0.f4).length ≤ 1073741824 then some ((t23 ++ (bytesOf a0.f4)), 0) else none))))))))
set_option maxHeartbeats 4000000 in
theorem grapevineref4_Lay_calls {B : World} {G : GMap} {Γ : List Chunk} {W : World} (HT : Tabs B G) (k : Nat) (a0 : T36) (r : (List Int) × Int) (h : grapevineref4_Lay k a0 = some r) (hI : Inv B G (Γ) W) :
    Calls Tryd.prog 29 [.agg #[.int .i64 a0.f0, .int .i64 a0.f1, .int .i64 a0.f2, .int .i64 a0.f3, .string a0.f4]].toArray W (Ret B (fun v G' Γ' => ∃ (AR0 : Option Addr), ∃ (cR0 : Nat), ∃ (CR0 : Chunk), v = .tuple #[.slice AR0 r.1.length cR0, .int .i64 r.2] ∧ Ow (kInt .u8) G' AR0 cR0 r.1 CR0 ∧ G = G' ∧ CR0 :: Γ = Γ')) := by
  refine calls_WP (Γ := Γ) (G := G) (B := B) Tryd.func29 rfl (by kernel_rfl) ?_ hI
  clear hI
  unfold grapevineref4_Lay at h
  refine WP.seqR ?_
  refine WL.op (op := .box 36 (.tmp 0)) (ty := 0) (d := some 1) (g := none) (by kernel_rfl) (by kernel_rfl) (by kernel_rfl) (Does.new (o := .cells #[.int .i64 a0.f0, .int .i64 a0.f1, .int .i64 a0.f2, .int .i64 a0.f3, .string a0.f4] 36 (0, 0)) (v := fun r => .pointer (some ⟨r, 0, none⟩)) (fun r => by kernel_rfl)) ?_
  rintro _ _ _ ⟨b1, rfl, rfl, rfl⟩
  refine WL.restQ 1 [1] (L' := [(1, .pointer (some ⟨b1, 0, none⟩))]) (by kernel_rfl) ?_
  refine WP.seq ?_
  refine WP.seqR ?_
  refine WL.tell (op := .load 36 (.tmp 1)) (ty := 36) (d := some 5) (g := none) (by kernel_rfl) (by kernel_rfl) (by kernel_rfl) (Tells.load_box (i := 0) (b := b1) (o := 0) (agg := true) (by rfl) ag36 (by kernel_rfl) (fun h => by cases h) (Nat.le_of_ble_eq_true rfl) (v := .agg #[.int .i64 a0.f0, .int .i64 a0.f1, .int .i64 a0.f2, .int .i64 a0.f3, .string a0.f4]) (by kernel_rfl)) ?_
  rw [Option.bind_eq_some_iff] at h
  obtain ⟨t2, ht3, h⟩ := h
  refine WL.op (op := .call { callee := (.value (.func 58)), args := #[(.tmp 5)], argTypes := #[36] }) (ty := 4) (d := some 6) (g := none) (by kernel_rfl) (by kernel_rfl) (by kernel_rfl) (Does.call (f := 58) (args := [.agg #[.int .i64 a0.f0, .int .i64 a0.f1, .int .i64 a0.f2, .int .i64 a0.f3, .string a0.f4]]) (by kernel_rfl) (fun W hI => (grapevineref4_May_calls HT a0  t2 ht3 hI))) ?_
  rintro _ _ _ ⟨rfl, rfl, rfl⟩
  refine WL.restQ 2 [1, 7] (L' := [(1, .pointer (some ⟨b1, 0, none⟩)), (7, .bool (!t2))]) (by kernel_rfl) ?_
  refine WP.cond (b := (!t2)) (by kernel_rfl) (fun hc => ?_) (fun hc => ?_)
  · replace hc := hc
    rw [if_pos hc] at h
    have hc6 := hc
    clear hc
    refine WP.seqP [2, 3] (L' := [(2, .slice none 0 0), (3, .int .i64 2)]) (by kernel_rfl) ?_
    refine WP.dropAt 0 ?_
    refine WP.ret ?_
    refine QP.thenR ?_
    obtain rfl := Option.some.inj h
    refine QP.addNil ?_
    exact QP.returned [2, 3] [.slice none ([] : List Int).length 0, .int .i64 2] _ (by kernel_rfl) (by kernel_rfl) (by kernel_rfl) (fun W hI => ⟨_, _, _, rfl, ⟨none, 0, [], rfl, (Ow.nil (kInt .u8) _), rfl, rfl⟩, hI⟩)
  · replace hc := (Bool.eq_false_iff.1 hc)
    rw [if_neg hc] at h
    have hc6 := hc
    clear hc
    refine WP.skip ?_
    refine QP.next ?_
    refine WP.pick [1] ?_
    refine WP.seq ?_
    refine WP.any (N := 21) (S := [⟨some 8, [1], []⟩, ⟨some 9, [8], [0]⟩, ⟨some 10, [9], [1]⟩, ⟨some 11, [10], [2]⟩, ⟨some 12, [1], []⟩, ⟨some 13, [12], [4]⟩, ⟨some 14, [13], [5]⟩, ⟨some 15, [11, 14], [3, 6]⟩, ⟨some 16, [1], []⟩, ⟨some 17, [16], [8]⟩, ⟨some 18, [17], [9]⟩, ⟨some 19, [15, 18], [7, 10]⟩, ⟨some 20, [1], []⟩, ⟨some 21, [20], [12]⟩, ⟨some 22, [21], [13]⟩, ⟨some 23, [19, 22], [11, 14]⟩, ⟨some 24, [1], []⟩, ⟨some 25, [24], [16]⟩, ⟨some 26, [25], [17]⟩, ⟨some 27, [23, 26], [15, 18]⟩, ⟨some 4, [27], [0, 1, 2, 3, 4, 5, 6, 7, 8, 9, 10, 11, 12, 13, 14, 15, 16, 17, 18, 19]⟩]) (kw := 21) (G0 := G) (Γ0 := [[(b1, .cells #[.int .i64 a0.f0, .int .i64 a0.f1, .int .i64 a0.f2, .int .i64 a0.f3, .string a0.f4] 36 (0, 0))]]) mo (by kernel_rfl) (fun hS => ?_)
    refine WA.pure [0, 1, 4, 5, 8, 9, 12, 13, 16] [1, 9, 13, 17, 21, 24] (m := 12) (b' := 78643) (L' := [(1, .pointer (some ⟨b1, 0, none⟩)), (9, .pointer (some ⟨b1, 0, none⟩)), (13, .pointer (some ⟨b1, 1, none⟩)), (17, .pointer (some ⟨b1, 2, none⟩)), (21, .pointer (some ⟨b1, 3, none⟩)), (24, .pointer (some ⟨b1, 4, none⟩))]) (by kernel_rfl) (NoPanic.then (NoPanic.body)) (Under.mem (C := [(b1, .cells #[.int .i64 a0.f0, .int .i64 a0.f1, .int .i64 a0.f2, .int .i64 a0.f3, .string a0.f4] 36 (0, 0))]) (by repeat first | exact List.Mem.head _ | apply List.Mem.tail)) hS (by kernel_rfl) ?_
    refine WA.tellD [] (i := 2) (m := 11) (b' := 78647) (by kernel_rfl) (NoPanic.then (NoPanic.body)) (Under.mem (C := [(b1, .cells #[.int .i64 a0.f0, .int .i64 a0.f1, .int .i64 a0.f2, .int .i64 a0.f3, .string a0.f4] 36 (0, 0))]) (by repeat first | exact List.Mem.head _ | apply List.Mem.tail)) hS (by kernel_rfl) (op := .load 3 (.tmp 9)) (ty := 3) (d := some 10) (g := none) (by kernel_rfl) (by kernel_rfl) (by kernel_rfl) (Tells.load_box (i := 0) (b := b1) (o := 0) (agg := false) (by rfl) ag3 (by kernel_rfl) (fun _ => rfl) (Nat.le_of_ble_eq_true rfl) (v := .int .i64 a0.f0) (by kernel_rfl)) ?_
    refine WA.tellD [] (i := 6) (m := 10) (b' := 78711) (by kernel_rfl) (NoPanic.then (NoPanic.body)) (Under.mem (C := [(b1, .cells #[.int .i64 a0.f0, .int .i64 a0.f1, .int .i64 a0.f2, .int .i64 a0.f3, .string a0.f4] 36 (0, 0))]) (by repeat first | exact List.Mem.head _ | apply List.Mem.tail)) hS (by kernel_rfl) (op := .load 3 (.tmp 13)) (ty := 3) (d := some 14) (g := none) (by kernel_rfl) (by kernel_rfl) (by kernel_rfl) (Tells.load_box (i := 0) (b := b1) (o := 1) (agg := false) (by rfl) ag3 (by kernel_rfl) (fun _ => rfl) (Nat.le_of_ble_eq_true rfl) (v := .int .i64 a0.f1) (by kernel_rfl)) ?_
    refine WA.tellD [] (i := 10) (m := 9) (b' := 79735) (by kernel_rfl) (NoPanic.then (NoPanic.body)) (Under.mem (C := [(b1, .cells #[.int .i64 a0.f0, .int .i64 a0.f1, .int .i64 a0.f2, .int .i64 a0.f3, .string a0.f4] 36 (0, 0))]) (by repeat first | exact List.Mem.head _ | apply List.Mem.tail)) hS (by kernel_rfl) (op := .load 3 (.tmp 17)) (ty := 3) (d := some 18) (g := none) (by kernel_rfl) (by kernel_rfl) (by kernel_rfl) (Tells.load_box (i := 0) (b := b1) (o := 2) (agg := false) (by rfl) ag3 (by kernel_rfl) (fun _ => rfl) (Nat.le_of_ble_eq_true rfl) (v := .int .i64 a0.f2) (by kernel_rfl)) ?_
    refine WA.tellD [] (i := 14) (m := 8) (b' := 96119) (by kernel_rfl) (NoPanic.then (NoPanic.body)) (Under.mem (C := [(b1, .cells #[.int .i64 a0.f0, .int .i64 a0.f1, .int .i64 a0.f2, .int .i64 a0.f3, .string a0.f4] 36 (0, 0))]) (by repeat first | exact List.Mem.head _ | apply List.Mem.tail)) hS (by kernel_rfl) (op := .load 3 (.tmp 21)) (ty := 3) (d := some 22) (g := none) (by kernel_rfl) (by kernel_rfl) (by kernel_rfl) (Tells.load_box (i := 0) (b := b1) (o := 3) (agg := false) (by rfl) ag3 (by kernel_rfl) (fun _ => rfl) (Nat.le_of_ble_eq_true rfl) (v := .int .i64 a0.f3) (by kernel_rfl)) ?_
    refine WA.tellD [] (i := 17) (m := 7) (b' := 227191) (by kernel_rfl) (NoPanic.then (NoPanic.body)) (Under.mem (C := [(b1, .cells #[.int .i64 a0.f0, .int .i64 a0.f1, .int .i64 a0.f2, .int .i64 a0.f3, .string a0.f4] 36 (0, 0))]) (by repeat first | exact List.Mem.head _ | apply List.Mem.tail)) hS (by kernel_rfl) (op := .load 9 (.tmp 24)) (ty := 9) (d := some 25) (g := none) (by kernel_rfl) (by kernel_rfl) (by kernel_rfl) (Tells.load_box (i := 0) (b := b1) (o := 4) (agg := false) (by rfl) ag9 (by kernel_rfl) (fun _ => rfl) (Nat.le_of_ble_eq_true rfl) (v := .string a0.f4) (by kernel_rfl)) ?_
    refine WA.pure [18] [1, 10, 14, 18, 22, 26] (m := 6) (b' := 489335) (L' := [(1, .pointer (some ⟨b1, 0, none⟩)), (10, .int .i64 a0.f0), (14, .int .i64 a0.f1), (18, .int .i64 a0.f2), (22, .int .i64 a0.f3), (26, .int .i64 (a0.f4.size : Int))]) (by kernel_rfl) (NoPanic.then (NoPanic.body)) (Under.mem (C := [(b1, .cells #[.int .i64 a0.f0, .int .i64 a0.f1, .int .i64 a0.f2, .int .i64 a0.f3, .string a0.f4] 36 (0, 0))]) (by repeat first | exact List.Mem.head _ | apply List.Mem.tail)) hS (by kernel_rfl) ?_
    refine WA.addNil ?_
    rw [Option.bind_eq_some_iff] at h
    obtain ⟨t7, ht8, h⟩ := h
    refine WA.op (i := 3) (m := 5) (b' := 489343) (by kernel_rfl) hS (by kernel_rfl) (op := .call { callee := (.value (.func 65)), args := #[(.const (.slice none 0 0)), (.tmp 10), (.const (.int .i64 1))], argTypes := #[55, 3, 3] }) (ty := 55) (d := some 11) (g := none) (by kernel_rfl) (by kernel_rfl) (by kernel_rfl) (Does.call (f := 65) (args := [.slice none ([] : List Int).length 0, .int .i64 a0.f0, .int .i64 1]) (by kernel_rfl) (fun W hI => (grapevineref4_Num_calls k ([] : List Int) a0.f0 1 none 0 [] (Ow.nil (kInt .u8) G) t7 ht8 hI))) ?_
    rintro _ _ _ ⟨AR9, cR9, CR9, rfl, HR9, rfl, rfl⟩
    refine ⟨_, _, Under.refl, (Under.mem (C := [(b1, .cells #[.int .i64 a0.f0, .int .i64 a0.f1, .int .i64 a0.f2, .int .i64 a0.f3, .string a0.f4] 36 (0, 0))]) (by repeat first | exact List.Mem.head _ | apply List.Mem.tail)), ?_⟩
    rw [Option.bind_eq_some_iff] at h
    obtain ⟨t11, ht12, h⟩ := h
    refine WA.op (i := 7) (m := 4) (b' := 489471) (by kernel_rfl) hS (by kernel_rfl) (op := .call { callee := (.value (.func 65)), args := #[(.tmp 11), (.tmp 14), (.const (.int .i64 2))], argTypes := #[55, 3, 3] }) (ty := 55) (d := some 15) (g := none) (by kernel_rfl) (by kernel_rfl) (by kernel_rfl) (Does.call (f := 65) (args := [.slice AR9 t7.length cR9, .int .i64 a0.f1, .int .i64 2]) (by kernel_rfl) (fun W hI => (grapevineref4_Num_calls k t7 a0.f1 2 AR9 cR9 CR9 HR9 t11 ht12 hI))) ?_
    rintro _ _ _ ⟨AR13, cR13, CR13, rfl, HR13, rfl, rfl⟩
    refine ⟨_, _, Under.refl, (Under.mem (C := [(b1, .cells #[.int .i64 a0.f0, .int .i64 a0.f1, .int .i64 a0.f2, .int .i64 a0.f3, .string a0.f4] 36 (0, 0))]) (by repeat first | exact List.Mem.head _ | apply List.Mem.tail)), ?_⟩
    rw [Option.bind_eq_some_iff] at h
    obtain ⟨t15, ht16, h⟩ := h
    refine WA.op (i := 11) (m := 3) (b' := 491519) (by kernel_rfl) hS (by kernel_rfl) (op := .call { callee := (.value (.func 65)), args := #[(.tmp 15), (.tmp 18), (.const (.int .i64 6))], argTypes := #[55, 3, 3] }) (ty := 55) (d := some 19) (g := none) (by kernel_rfl) (by kernel_rfl) (by kernel_rfl) (Does.call (f := 65) (args := [.slice AR13 t11.length cR13, .int .i64 a0.f2, .int .i64 6]) (by kernel_rfl) (fun W hI => (grapevineref4_Num_calls k t11 a0.f2 6 AR13 cR13 CR13 HR13 t15 ht16 hI))) ?_
    rintro _ _ _ ⟨AR17, cR17, CR17, rfl, HR17, rfl, rfl⟩
    refine ⟨_, _, Under.refl, (Under.mem (C := [(b1, .cells #[.int .i64 a0.f0, .int .i64 a0.f1, .int .i64 a0.f2, .int .i64 a0.f3, .string a0.f4] 36 (0, 0))]) (by repeat first | exact List.Mem.head _ | apply List.Mem.tail)), ?_⟩
    rw [Option.bind_eq_some_iff] at h
    obtain ⟨t19, ht20, h⟩ := h
    refine WA.op (i := 15) (m := 2) (b' := 524287) (by kernel_rfl) hS (by kernel_rfl) (op := .call { callee := (.value (.func 65)), args := #[(.tmp 19), (.tmp 22), (.const (.int .i64 2))], argTypes := #[55, 3, 3] }) (ty := 55) (d := some 23) (g := none) (by kernel_rfl) (by kernel_rfl) (by kernel_rfl) (Does.call (f := 65) (args := [.slice AR17 t15.length cR17, .int .i64 a0.f3, .int .i64 2]) (by kernel_rfl) (fun W hI => (grapevineref4_Num_calls k t15 a0.f3 2 AR17 cR17 CR17 HR17 t19 ht20 hI))) ?_
    rintro _ _ _ ⟨AR21, cR21, CR21, rfl, HR21, rfl, rfl⟩
    refine ⟨_, _, Under.refl, (Under.mem (C := [(b1, .cells #[.int .i64 a0.f0, .int .i64 a0.f1, .int .i64 a0.f2, .int .i64 a0.f3, .string a0.f4] 36 (0, 0))]) (by repeat first | exact List.Mem.head _ | apply List.Mem.tail)), ?_⟩
    rw [Option.bind_eq_some_iff] at h
    obtain ⟨t23, ht24, h⟩ := h
    refine WA.op (i := 19) (m := 1) (b' := 1048575) (by kernel_rfl) hS (by kernel_rfl) (op := .call { callee := (.value (.func 65)), args := #[(.tmp 23), (.tmp 26), (.const (.int .i64 1))], argTypes := #[55, 3, 3] }) (ty := 55) (d := some 27) (g := none) (by kernel_rfl) (by kernel_rfl) (by kernel_rfl) (Does.call (f := 65) (args := [.slice AR21 t19.length cR21, .int .i64 (a0.f4.size : Int), .int .i64 1]) (by kernel_rfl) (fun W hI => (grapevineref4_Num_calls k t19 (a0.f4.size : Int) 1 AR21 cR21 CR21 HR21 t23 ht24 hI))) ?_
    rintro _ _ _ ⟨AR25, cR25, CR25, rfl, HR25, rfl, rfl⟩
    refine ⟨_, _, Under.refl, (Under.mem (C := [(b1, .cells #[.int .i64 a0.f0, .int .i64 a0.f1, .int .i64 a0.f2, .int .i64 a0.f3, .string a0.f4] 36 (0, 0))]) (by repeat first | exact List.Mem.head _ | apply List.Mem.tail)), ?_⟩
    refine WA.pure [20] [1, 4] (m := 0) (b' := 2097151) (L' := [(1, .pointer (some ⟨b1, 0, none⟩)), (4, .slice AR25 t23.length cR25)]) (by kernel_rfl) (NoPanic.then (NoPanic.body)) (Under.mem (C := [(b1, .cells #[.int .i64 a0.f0, .int .i64 a0.f1, .int .i64 a0.f2, .int .i64 a0.f3, .string a0.f4] 36 (0, 0))]) (by repeat first | exact List.Mem.head _ | apply List.Mem.tail)) hS (by kernel_rfl) ?_
    refine WA.done hS (by kernel_rfl) ?_
    refine QP.pick [1, 4] ?_
    refine QP.next ?_
    refine WP.seqR ?_
    refine WL.pure 0 2 [28, 29] (L' := [(28, .slice AR25 t23.length cR25), (29, .pointer (some ⟨b1, 4, none⟩))]) (by kernel_rfl) (by decide) ?_
    refine WL.tell (op := .load 9 (.tmp 29)) (ty := 9) (d := some 30) (g := none) (by kernel_rfl) (by kernel_rfl) (by kernel_rfl) (Tells.load_box (i := 1) (b := b1) (o := 4) (agg := false) (by rfl) ag9 (by kernel_rfl) (fun _ => rfl) (Nat.le_of_ble_eq_true rfl) (v := .string a0.f4) (by kernel_rfl)) ?_
    by_cases hb27 : t23.length + (bytesOf a0.f4).length ≤ 1073741824
    case neg => rw [if_neg hb27] at h; cases h
    rw [if_pos hb27] at h
    refine WL.op (op := .call { callee := (.builtin .append), args := #[(.tmp 28), (.tmp 30)], argTypes := #[55, 9] }) (ty := 55) (d := some 31) (g := none) (by kernel_rfl) (by kernel_rfl) (by kernel_rfl) (Ow.append (ys := (bytesOf a0.f4)) (v := .string a0.f4) HR25 (i := 0) rfl (by kernel_rfl) (by kernel_rfl) (Src.str a0.f4) sl55 ze5 nt9 (by decide) hb27) ?_
    rintro _ _ _ ⟨rfl, AN28, cN28, CN28, rfl, HN28, rfl⟩
    refine WL.restQ 4 [2, 3] (L' := [(2, .slice AN28 (t23 ++ (bytesOf a0.f4)).length cN28), (3, .int .i64 0)]) (by kernel_rfl) ?_
    refine WP.dropAt 1 ?_
    refine WP.ret ?_
    obtain rfl := Option.some.inj h
    exact QP.returned [2, 3] [.slice AN28 (t23 ++ (bytesOf a0.f4)).length cN28, .int .i64 0] _ (by kernel_rfl) (by kernel_rfl) (by kernel_rfl) (fun W hI => ⟨_, _, _, rfl, ⟨AN28, cN28, CN28, rfl, HN28, rfl, rfl⟩, hI⟩)

/-! ### grapevine/grapevineref5.more: function 86 -/
def grapevineref5_more_l0 (l1 : List Int) : Nat → Int → Int → Option Int
  | 0, _, _ => none
  | k + 1, y3, y4 => (if y4 < (l1.length : Int) then (if 0 ≤ y4 ∧ y4 < (l1.length : Int) then grapevineref5_more_l0 l1 k (IntKind.u64.wrap ((Go.bits .xor .u64 y3 (IntKind.u64.wrap (l1.getD y4.toNat 0))) * 1099511628211)) (IntKind.i64.wrap (y4 + 1)) else none) else some y3)
def grapevineref5_more (k : Nat) (a0 : Int) (l1 : List Int) : Option Int := ((grapevineref5_more_l0 l1 k a0 0).bind fun s1 => some s1)
set_option maxHeartbeats 4000000 in
theorem grapevineref5_more_calls {B : World} {G : GMap} {Γ : List Chunk} {W : World} (k : Nat) (a0 : Int) (l1 : List Int) (Al1 : Option Addr) (cl1 : Nat) (Hl1 : Rd (kInt .u8) G Al1 cl1 l1) (r : Int) (h : grapevineref5_more k a0 l1 = some r) (hI : Inv B G (Γ) W) :
    Calls Tryd.prog 86 [.int .u64 a0, .slice Al1 l1.length cl1].toArray W (Ret B (fun v G' Γ' => v = .int .u64 r ∧ G = G' ∧ Γ = Γ')) := by
  refine calls_WP (Γ := Γ) (G := G) (B := B) Tryd.func86 rfl (by kernel_rfl) ?_ hI
  clear hI
  unfold grapevineref5_more at h
  refine WP.seqP [0, 1] (L' := [(0, .int .u64 a0), (1, .slice Al1 l1.length cl1)]) (by kernel_rfl) ?_
  refine WP.seq ?_
  refine WP.seqP [0, 1, 5] (L' := [(0, .int .u64 a0), (1, .slice Al1 l1.length cl1), (5, .int .i64 0)]) (by kernel_rfl) ?_
  rw [Option.bind_eq_some_iff] at h
  obtain ⟨os1, h, hk2⟩ := h
  refine WP.cutQ (fun L' G' Γ' => ∃ s1 : Int, s1 = os1 ∧ L' = [(0, .int .u64 s1)] ∧ G = G' ∧ Γ = Γ') ?_ ?_
  · clear hk2
    refine WP.block ?_
    refine WP.pick [0, 1, 5] ?_
    refine WP.loopF (fun kn5 L' G' Γ' => ∃ (y3 : Int), ∃ (y4 : Int), grapevineref5_more_l0 l1 kn5 y3 y4 = some os1 ∧ L' = [(0, .int .u64 y3), (1, .slice Al1 l1.length cl1), (5, .int .i64 y4)] ∧ G = G' ∧ Γ = Γ') ?_ k ⟨a0, 0, h, rfl, rfl, rfl⟩
    clear h
    rintro kn6 _ _ _ ⟨y3, y4, h, rfl, rfl, rfl⟩
    cases kn6 with
    | zero => exact absurd h (by simp [grapevineref5_more_l0])
    | succ kn6 =>
      simp only [grapevineref5_more_l0] at h
      refine WP.seq ?_
      refine WP.seqP [0, 1, 5, 9] (L' := [(0, .int .u64 y3), (1, .slice Al1 l1.length cl1), (5, .int .i64 y4), (9, .bool (decide (y4 < (l1.length : Int))))]) (by kernel_rfl) ?_
      refine WP.cond (b := decide (y4 < (l1.length : Int))) (by kernel_rfl) (fun hc => ?_) (fun hc => ?_)
      · replace hc := of_decide_eq_true hc
        rw [if_pos hc] at h
        have hc7 := hc
        clear hc
        refine WP.skip ?_
        refine QP.next ?_
        refine WP.pick [0, 1, 5] ?_
        refine WP.seq ?_
        refine WP.block ?_
        refine WP.region ?_
        refine WL.pure 0 3 [0, 1, 5, 12, 13, 14] (L' := [(0, .int .u64 y3), (1, .slice Al1 l1.length cl1), (5, .int .i64 y4), (12, .int .u64 y3), (13, .slice Al1 l1.length cl1), (14, .int .i64 y4)]) (by kernel_rfl) (by decide) ?_
        by_cases hb8 : 0 ≤ y4 ∧ y4 < (l1.length : Int)
        case neg => rw [if_neg hb8] at h; cases h
        rw [if_pos hb8] at h
        refine WL.tell (op := .indexAddr 55 (.tmp 13) (.tmp 14)) (ty := 0) (d := some 15) (g := none) (by kernel_rfl) (by kernel_rfl) (by kernel_rfl) (Tells.indexAddr (A := Al1) (n := l1.length) (c := cl1) (k := .i64) (j := y4) (by kernel_rfl) (by kernel_rfl) (Hl1.isSome hb8.1 hb8.2) hb8.1 hb8.2 sl55) ?_
        refine WL.tellE (op := .load 5 (.tmp 15)) (ty := 5) (d := some 16) (g := none) (by kernel_rfl) (by kernel_rfl) (by kernel_rfl) (Hl1.load (agg := false) hb8.1 hb8.2 0 ag5 (fun _ => rfl) (by kernel_rfl)) ?_
        rintro _ rfl
        refine WL.rest 5 [0, 1, 5] (L' := [(0, .int .u64 (IntKind.u64.wrap ((Go.bits .xor .u64 y3 (IntKind.u64.wrap (l1.getD y4.toNat 0))) * 1099511628211))), (1, .slice Al1 l1.length cl1), (5, .int .i64 y4)]) (by kernel_rfl) ?_
        refine QP.blockN ?_
        refine QP.next ?_
        refine WP.pick [0, 1, 5] ?_
        refine WP.regionP [0, 1, 5] (L' := [(0, .int .u64 (IntKind.u64.wrap ((Go.bits .xor .u64 y3 (IntKind.u64.wrap (l1.getD y4.toNat 0))) * 1099511628211))), (1, .slice Al1 l1.length cl1), (5, .int .i64 (IntKind.i64.wrap (y4 + 1)))]) (by kernel_rfl) ?_
        refine QP.pick [0, 1, 5] ?_
        exact QP.meet ⟨kn6, Nat.lt_succ_self _, (IntKind.u64.wrap ((Go.bits .xor .u64 y3 (IntKind.u64.wrap (l1.getD y4.toNat 0))) * 1099511628211)), (IntKind.i64.wrap (y4 + 1)), h, rfl, rfl, rfl⟩
      · replace hc := of_decide_eq_false hc
        rw [if_neg hc] at h
        have hc7 := hc
        clear hc
        refine WP.exit ?_
        refine QP.thenE ?_
        refine QP.thenE ?_
        refine QP.blockE ?_
        refine QP.pick [0] ?_
        exact QP.meet ⟨_, Option.some.inj h, rfl, rfl, rfl⟩
  · rintro _ _ _ ⟨s1, rfl, rfl, rfl, rfl⟩
    clear h
    replace h := hk2
    refine QP.next ?_
    refine WP.pick [0] ?_
    refine WP.seqP [4] (L' := [(4, .int .u64 s1)]) (by kernel_rfl) ?_
    refine WP.ret ?_
    obtain rfl := Option.some.inj h
    exact QP.returned [4] [.int .u64 s1] _ (by kernel_rfl) (by kernel_rfl) (by kernel_rfl) (fun W hI => ⟨_, _, _, rfl, ⟨rfl, rfl, rfl⟩, hI⟩)

/-! ### grapevine/grapevineref5.Of: function 66 -/
def grapevineref5_Of_l0 (l0 : List (List Int)) : Nat → Int → Int → Option Int
  | 0, _, _ => none
  | k + 1, y3, y4 => (if y4 < (l0.length : Int) then (if 0 ≤ y4 ∧ y4 < (l0.length : Int) then ((grapevineref5_more k y3 (l0.getD y4.toNat [])).bind fun t10 => grapevineref5_Of_l0 l0 k t10 (IntKind.i64.wrap (y4 + 1))) else none) else some y3)
def grapevineref5_Of (k : Nat) (l0 : List (List Int)) : Option Int := ((grapevineref5_Of_l0 l0 k 14695981039346656037 0).bind fun s1 => some s1)
set_option maxHeartbeats 4000000 in
theorem grapevineref5_Of_calls {B : World} {G : GMap} {Γ : List Chunk} {W : World} (k : Nat) (l0 : List (List Int)) (Al0 : Option Addr) (cl0 : Nat) (Hl0 : Rd (kSlice (kInt .u8)) G Al0 cl0 l0) (r : Int) (h : grapevineref5_Of k l0 = some r) (hI : Inv B G (Γ) W) :
    Calls Tryd.prog 66 [.slice Al0 l0.length cl0].toArray W (Ret B (fun v G' Γ' => v = .int .u64 r ∧ G = G' ∧ Γ = Γ')) := by
  refine calls_WP (Γ := Γ) (G := G) (B := B) Tryd.func66 rfl (by kernel_rfl) ?_ hI
  clear hI
  unfold grapevineref5_Of at h
  refine WP.seqP [0] (L' := [(0, .slice Al0 l0.length cl0)]) (by kernel_rfl) ?_
  refine WP.seqP [0, 3] (L' := [(0, .slice Al0 l0.length cl0), (3, .int .u64 14695981039346656037)]) (by kernel_rfl) ?_
  refine WP.seq ?_
  refine WP.seqP [0, 3, 4] (L' := [(0, .slice Al0 l0.length cl0), (3, .int .u64 14695981039346656037), (4, .int .i64 0)]) (by kernel_rfl) ?_
  rw [Option.bind_eq_some_iff] at h
  obtain ⟨os1, h, hk2⟩ := h
  refine WP.cutQ (fun L' G' Γ' => ∃ s1 : Int, s1 = os1 ∧ L' = [(3, .int .u64 s1)] ∧ G = G' ∧ Γ = Γ') ?_ ?_
  · clear hk2
    refine WP.block ?_
    refine WP.pick [0, 3, 4] ?_
    refine WP.loopF (fun kn5 L' G' Γ' => ∃ (y3 : Int), ∃ (y4 : Int), grapevineref5_Of_l0 l0 kn5 y3 y4 = some os1 ∧ L' = [(0, .slice Al0 l0.length cl0), (3, .int .u64 y3), (4, .int .i64 y4)] ∧ G = G' ∧ Γ = Γ') ?_ k ⟨14695981039346656037, 0, h, rfl, rfl, rfl⟩
    clear h
    rintro kn6 _ _ _ ⟨y3, y4, h, rfl, rfl, rfl⟩
    cases kn6 with
    | zero => exact absurd h (by simp [grapevineref5_Of_l0])
    | succ kn6 =>
      simp only [grapevineref5_Of_l0] at h
      refine WP.seq ?_
      refine WP.seqP [0, 3, 4, 8] (L' := [(0, .slice Al0 l0.length cl0), (3, .int .u64 y3), (4, .int .i64 y4), (8, .bool (decide (y4 < (l0.length : Int))))]) (by kernel_rfl) ?_
      refine WP.cond (b := decide (y4 < (l0.length : Int))) (by kernel_rfl) (fun hc => ?_) (fun hc => ?_)
      · replace hc := of_decide_eq_true hc
        rw [if_pos hc] at h
        have hc7 := hc
        clear hc
        refine WP.skip ?_
        refine QP.next ?_
        refine WP.pick [0, 3, 4] ?_
        refine WP.seq ?_
        refine WP.block ?_
        refine WP.region ?_
        refine WL.pure 0 3 [0, 3, 4, 11, 12, 13] (L' := [(0, .slice Al0 l0.length cl0), (3, .int .u64 y3), (4, .int .i64 y4), (11, .int .u64 y3), (12, .slice Al0 l0.length cl0), (13, .int .i64 y4)]) (by kernel_rfl) (by decide) ?_
        by_cases hb8 : 0 ≤ y4 ∧ y4 < (l0.length : Int)
        case neg => rw [if_neg hb8] at h; cases h
        rw [if_pos hb8] at h
        refine WL.tell (op := .indexAddr 114 (.tmp 12) (.tmp 13)) (ty := 0) (d := some 14) (g := none) (by kernel_rfl) (by kernel_rfl) (by kernel_rfl) (Tells.indexAddr (A := Al0) (n := l0.length) (c := cl0) (k := .i64) (j := y4) (by kernel_rfl) (by kernel_rfl) (Hl0.isSome hb8.1 hb8.2) hb8.1 hb8.2 sl114) ?_
        refine WL.tellE (op := .load 55 (.tmp 14)) (ty := 55) (d := some 15) (g := none) (by kernel_rfl) (by kernel_rfl) (by kernel_rfl) (Hl0.load (agg := false) hb8.1 hb8.2 [] ag55 (fun _ => rfl) (by kernel_rfl)) ?_
        rintro _ ⟨Ae9, ce9, rfl, He9⟩
        rw [Option.bind_eq_some_iff] at h
        obtain ⟨t10, ht11, h⟩ := h
        refine WL.op (op := .call { callee := (.value (.func 86)), args := #[(.tmp 11), (.tmp 15)], argTypes := #[44, 55] }) (ty := 44) (d := some 16) (g := none) (by kernel_rfl) (by kernel_rfl) (by kernel_rfl) (Does.call (f := 86) (args := [.int .u64 y3, .slice Ae9 (l0.getD y4.toNat []).length ce9]) (by kernel_rfl) (fun W hI => (grapevineref5_more_calls kn6 y3 (l0.getD y4.toNat []) Ae9 ce9 He9 t10 ht11 hI))) ?_
        rintro _ _ _ ⟨rfl, rfl, rfl⟩
        refine WL.rest 6 [0, 3, 4] (L' := [(0, .slice Al0 l0.length cl0), (3, .int .u64 t10), (4, .int .i64 y4)]) (by kernel_rfl) ?_
        refine QP.blockN ?_
        refine QP.next ?_
        refine WP.pick [0, 3, 4] ?_
        refine WP.regionP [0, 3, 4] (L' := [(0, .slice Al0 l0.length cl0), (3, .int .u64 t10), (4, .int .i64 (IntKind.i64.wrap (y4 + 1)))]) (by kernel_rfl) ?_
        refine QP.pick [0, 3, 4] ?_
        exact QP.meet ⟨kn6, Nat.lt_succ_self _, t10, (IntKind.i64.wrap (y4 + 1)), h, rfl, rfl, rfl⟩
      · replace hc := of_decide_eq_false hc
        rw [if_neg hc] at h
        have hc7 := hc
        clear hc
        refine WP.exit ?_
        refine QP.thenE ?_
        refine QP.thenE ?_
        refine QP.blockE ?_
        refine QP.pick [3] ?_
        exact QP.meet ⟨_, Option.some.inj h, rfl, rfl, rfl⟩
  · rintro _ _ _ ⟨s1, rfl, rfl, rfl, rfl⟩
    clear h
    replace h := hk2
    refine QP.next ?_
    refine WP.pick [3] ?_
    refine WP.seqP [2] (L' := [(2, .int .u64 s1)]) (by kernel_rfl) ?_
    refine WP.ret ?_
    obtain rfl := Option.some.inj h
    exact QP.returned [2] [.int .u64 s1] _ (by kernel_rfl) (by kernel_rfl) (by kernel_rfl) (fun W hI => ⟨_, _, _, rfl, ⟨rfl, rfl, rfl⟩, hI⟩)

/-! ### grapevine/grapevineref5.One: function 30 -/
def grapevineref5_One (k : Nat) (l0 : List Int) : Option Int := ((grapevineref5_Of k ([l0] : List (List Int))).bind fun t4 => some t4)
set_option maxHeartbeats 4000000 in
theorem grapevineref5_One_calls {B : World} {G : GMap} {Γ : List Chunk} {W : World} (k : Nat) (l0 : List Int) (Al0 : Option Addr) (cl0 : Nat) (Hl0 : Rd (kInt .u8) G Al0 cl0 l0) (r : Int) (h : grapevineref5_One k l0 = some r) (hI : Inv B G (Γ) W) :
    Calls Tryd.prog 30 [.slice Al0 l0.length cl0].toArray W (Ret B (fun v G' Γ' => v = .int .u64 r ∧ G = G' ∧ Γ = Γ')) := by
  refine calls_WP (Γ := Γ) (G := G) (B := B) Tryd.func30 rfl (by kernel_rfl) ?_ hI
  clear hI
  unfold grapevineref5_One at h
  refine WP.seqP [0] (L' := [(0, .slice Al0 l0.length cl0)]) (by kernel_rfl) ?_
  refine WP.seqR ?_
  refine WL.pure 0 1 [3] (L' := [(3, .slice Al0 l0.length cl0)]) (by kernel_rfl) (by decide) ?_
  refine WL.op (op := .buildSlice 114 1 #[(0, (.tmp 3))]) (ty := 114) (d := some 4) (g := none) (by kernel_rfl) (by kernel_rfl) (by kernel_rfl) (Does.new (o := .cells #[.slice Al0 l0.length cl0] 55 (0, 0)) (v := fun r => .slice (some ⟨r, 0, none⟩) 1 1) (fun r => by kernel_rfl)) ?_
  rintro _ _ _ ⟨b1, rfl, rfl, rfl⟩
  have Ho3 : Ow (kSlice (kInt .u8)) G (some ⟨b1, 0, none⟩) 1 ([l0] : List (List Int)) [(b1, .cells #[.slice Al0 l0.length cl0] 55 (0, 0))] := Ow.lit (kd := (kSlice (kInt .u8))) (G := G) (b := b1) (T := 55) (xs := ([l0] : List (List Int))) (cs := [.slice Al0 l0.length cl0]) (.cons (x := l0) (cs := [.slice Al0 l0.length cl0]) ⟨Al0, cl0, rfl, Hl0⟩ .nil)
  rw [Option.bind_eq_some_iff] at h
  obtain ⟨t4, ht5, h⟩ := h
  refine WL.op (op := .call { callee := (.value (.func 66)), args := #[(.tmp 4)], argTypes := #[114] }) (ty := 44) (d := some 5) (g := none) (by kernel_rfl) (by kernel_rfl) (by kernel_rfl) (Does.call (Φ := fun v' G' Γ' => v' = .int .u64 t4 ∧ G = G' ∧ [(b1, .cells #[.slice Al0 l0.length cl0] 55 (0, 0))] :: Γ = Γ') (f := 66) (args := [.slice (some ⟨b1, 0, none⟩) ([l0] : List (List Int)).length 1]) (by kernel_rfl) (fun W hI => (Calls.lendN (Φ := fun v' N => v' = .int .u64 t4 ∧ N = []) (H := []) (i := 0) rfl hI (fun _ e l8 nl8 hI => by subst e; exact (((grapevineref5_Of_calls k ([l0] : List (List Int)) (some ⟨b1, 0, none⟩) 1 (Ho3.rdN l8 nl8) t4 ht5 hI)).mono fun _ _ hr => by obtain ⟨_, _, _, rfl, hd, hI⟩ := hr; obtain ⟨rfl, rfl, rfl⟩ := hd; exact ⟨_, _, _, rfl, ⟨[], ⟨rfl, rfl⟩, rfl, rfl⟩, hI⟩))).mono fun _ _ hr => by obtain ⟨_, _, _, rfl, ⟨_, hd, rfl, rfl⟩, hI⟩ := hr; obtain ⟨rfl, rfl⟩ := hd; exact ⟨_, _, _, rfl, ⟨rfl, rfl, rfl⟩, hI⟩)) ?_
  rintro _ _ _ ⟨rfl, rfl, rfl⟩
  refine WL.restQ 3 [2] (L' := [(2, .int .u64 t4)]) (by kernel_rfl) ?_
  refine WP.dropAt 0 ?_
  refine WP.ret ?_
  obtain rfl := Option.some.inj h
  exact QP.returned [2] [.int .u64 t4] _ (by kernel_rfl) (by kernel_rfl) (by kernel_rfl) (fun W hI => ⟨_, _, _, rfl, ⟨rfl, rfl, rfl⟩, hI⟩)

/-! ### grapevine/grapevineref5.All: function 32 -/
def grapevineref5_All_l1 (l0 : List Int) (y5 : Int) : Nat → (List Int) → Int → Option (List Int)
  | 0, _, _ => none
  | k + 1, y15, y16 => (if y16 ≥ 0 then (if 0 ≤ y5 ∧ y5 < (l0.length : Int) then (if 0 ≤ (IntKind.i64.wrap (8 * y16)) then (if y15.length + ([IntKind.u8.wrap (shrK .u64 (l0.getD y5.toNat 0) (IntKind.i64.wrap (8 * y16)))] : List Int).length ≤ 1073741824 then grapevineref5_All_l1 l0 y5 k (y15 ++ ([IntKind.u8.wrap (shrK .u64 (l0.getD y5.toNat 0) (IntKind.i64.wrap (8 * y16)))] : List Int)) (IntKind.i64.wrap (y16 - 1)) else none) else none) else none) else some y15)
def grapevineref5_All_l0 (l0 : List Int) : Nat → Bool → (List Int) → Int → Option (Bool × (List Int))
  | 0, _, _, _ => none
  | k + 1, y3, y4, y5 => (if y5 < (l0.length : Int) then ((if y3 = true then some true else (if 0 ≤ y5 ∧ y5 < (l0.length : Int) then some ((l0.getD y5.toNat 0) != 0) else none)).bind fun s9 => ((grapevineref5_All_l1 l0 y5 k y4 7).bind fun s13 => grapevineref5_All_l0 l0 k s9 s13 (IntKind.i64.wrap (y5 + 1)))) else some (y3, y4))
def grapevineref5_All (k : Nat) (l0 : List Int) : Option Int := ((grapevineref5_All_l0 l0 k false ([] : List Int) 0).bind fun s1 => (if (!s1.1) = true then some 0 else ((grapevineref5_One k s1.2).bind fun t28 => some t28)))
set_option maxHeartbeats 4000000 in
theorem grapevineref5_All_calls {B : World} {G : GMap} {Γ : List Chunk} {W : World} (k : Nat) (l0 : List Int) (Al0 : Option Addr) (cl0 : Nat) (Hl0 : Rd (kInt .u64) G Al0 cl0 l0) (r : Int) (h : grapevineref5_All k l0 = some r) (hI : Inv B G (Γ) W) :
    Calls Tryd.prog 32 [.slice Al0 l0.length cl0].toArray W (Ret B (fun v G' Γ' => v = .int .u64 r ∧ G = G' ∧ Γ = Γ')) := by
  refine calls_WP (Γ := Γ) (G := G) (B := B) Tryd.func32 rfl (by kernel_rfl) ?_ hI
  clear hI
  unfold grapevineref5_All at h
  refine WP.seqP [0] (L' := [(0, .slice Al0 l0.length cl0)]) (by kernel_rfl) ?_
  refine WP.seqP [0, 3] (L' := [(0, .slice Al0 l0.length cl0), (3, .bool false)]) (by kernel_rfl) ?_
  refine WP.seqP [0, 3, 4] (L' := [(0, .slice Al0 l0.length cl0), (3, .bool false), (4, .slice none 0 0)]) (by kernel_rfl) ?_
  refine WP.seq ?_
  refine WP.seqP [0, 3, 4, 5] (L' := [(0, .slice Al0 l0.length cl0), (3, .bool false), (4, .slice none 0 0), (5, .int .i64 0)]) (by kernel_rfl) ?_
  rw [Option.bind_eq_some_iff] at h
  obtain ⟨os1, h, hk2⟩ := h
  refine WP.cutQ (fun L' G' Γ' => ∃ s1 : Bool × (List Int), s1 = os1 ∧ ∃ (As1_2 : Option Addr), ∃ (cs1_2 : Nat), ∃ (Cs1_2 : Chunk), L' = [(3, .bool s1.1), (4, .slice As1_2 s1.2.length cs1_2)] ∧ G = G' ∧ Cs1_2 :: Γ = Γ' ∧ Ow (kInt .u8) G As1_2 cs1_2 s1.2 Cs1_2) ?_ ?_
  · clear hk2
    refine WP.block ?_
    refine WP.addNil ?_
    refine WP.pick [0, 3, 4, 5] ?_
    refine WP.loopF (fun kn6 L' G' Γ' => ∃ (y3 : Bool), ∃ (y4 : List Int), ∃ (y5 : Int), grapevineref5_All_l0 l0 kn6 y3 y4 y5 = some os1 ∧ ∃ (Ay4 : Option Addr), ∃ (cy4 : Nat), ∃ (Cy4 : Chunk), L' = [(0, .slice Al0 l0.length cl0), (3, .bool y3), (4, .slice Ay4 y4.length cy4), (5, .int .i64 y5)] ∧ G = G' ∧ Cy4 :: Γ = Γ' ∧ Ow (kInt .u8) G Ay4 cy4 y4 Cy4) ?_ k ⟨false, ([] : List Int), 0, h, none, 0, [], rfl, rfl, rfl, (Ow.nil (kInt .u8) _)⟩
    clear h
    rintro kn7 _ _ _ ⟨y3, y4, y5, h, Ay4, cy4, Cy4, rfl, rfl, rfl, Hy4⟩
    cases kn7 with
    | zero => exact absurd h (by simp [grapevineref5_All_l0])
    | succ kn7 =>
      simp only [grapevineref5_All_l0] at h
      refine WP.seq ?_
      refine WP.seqP [0, 3, 4, 5, 10] (L' := [(0, .slice Al0 l0.length cl0), (3, .bool y3), (4, .slice Ay4 y4.length cy4), (5, .int .i64 y5), (10, .bool (decide (y5 < (l0.length : Int))))]) (by kernel_rfl) ?_
      refine WP.cond (b := decide (y5 < (l0.length : Int))) (by kernel_rfl) (fun hc => ?_) (fun hc => ?_)
      · replace hc := of_decide_eq_true hc
        rw [if_pos hc] at h
        have hc8 := hc
        clear hc
        refine WP.skip ?_
        refine QP.next ?_
        refine WP.pick [0, 3, 4, 5] ?_
        refine WP.seq ?_
        refine WP.block ?_
        rw [Option.bind_eq_some_iff] at h
        obtain ⟨os9, h, hk10⟩ := h
        refine WP.cut (fun L' G' Γ' => ∃ s9 : Bool, s9 = os9 ∧ L' = [(0, .slice Al0 l0.length cl0), (3, .bool s9), (4, .slice Ay4 y4.length cy4), (5, .int .i64 y5)] ∧ G = G' ∧ Cy4 :: Γ = Γ') ?_ ?_
        · clear hk10
          refine WP.region ?_
          refine WL.pure 0 2 [0, 3, 4, 5, 14] (L' := [(0, .slice Al0 l0.length cl0), (3, .bool y3), (4, .slice Ay4 y4.length cy4), (5, .int .i64 y5), (14, .bool y3)]) (by kernel_rfl) (by decide) ?_
          refine WL.split 14 (b := y3) (by kernel_rfl) (fun hc => ?_) (fun hc => ?_)
          · replace hc := hc
            rw [if_pos hc] at h
            have hc11 := hc
            clear hc
            refine WL.rest 2 [0, 3, 4, 5] (L' := [(0, .slice Al0 l0.length cl0), (3, .bool true), (4, .slice Ay4 y4.length cy4), (5, .int .i64 y5)]) (by kernel_rfl) ?_
            refine QP.pick [0, 3, 4, 5] ?_
            exact QP.meet ⟨_, Option.some.inj h, rfl, rfl, rfl⟩
          · replace hc := (Bool.eq_false_iff.1 hc)
            rw [if_neg hc] at h
            have hc11 := hc
            clear hc
            refine WL.pure 2 4 [0, 3, 4, 5, 14, 15, 16] (L' := [(0, .slice Al0 l0.length cl0), (3, .bool y3), (4, .slice Ay4 y4.length cy4), (5, .int .i64 y5), (14, .bool false), (15, .slice Al0 l0.length cl0), (16, .int .i64 y5)]) (by kernel_rfl) (by decide) ?_
            by_cases hb12 : 0 ≤ y5 ∧ y5 < (l0.length : Int)
            case neg => rw [if_neg hb12] at h; cases h
            rw [if_pos hb12] at h
            refine WL.tell (op := .indexAddr 53 (.tmp 15) (.tmp 16)) (ty := 0) (d := some 17) (g := some (1, false)) (by kernel_rfl) (by kernel_rfl) (by kernel_rfl) (Tells.indexAddr (A := Al0) (n := l0.length) (c := cl0) (k := .i64) (j := y5) (by kernel_rfl) (by kernel_rfl) (Hl0.isSome hb12.1 hb12.2) hb12.1 hb12.2 sl53) ?_
            refine WL.tellE (op := .load 44 (.tmp 17)) (ty := 44) (d := some 18) (g := some (1, false)) (by kernel_rfl) (by kernel_rfl) (by kernel_rfl) (Hl0.load (agg := false) hb12.1 hb12.2 0 ag44 (fun _ => rfl) (by kernel_rfl)) ?_
            rintro _ rfl
            refine WL.rest 6 [0, 3, 4, 5] (L' := [(0, .slice Al0 l0.length cl0), (3, .bool ((l0.getD y5.toNat 0) != 0)), (4, .slice Ay4 y4.length cy4), (5, .int .i64 y5)]) (by kernel_rfl) ?_
            refine QP.pick [0, 3, 4, 5] ?_
            exact QP.meet ⟨_, Option.some.inj h, rfl, rfl, rfl⟩
        · rintro _ _ _ ⟨s9, rfl, rfl, rfl, rfl⟩
          clear h
          replace h := hk10
          refine WP.seqP [0, 3, 4, 5, 6] (L' := [(0, .slice Al0 l0.length cl0), (3, .bool s9), (4, .slice Ay4 y4.length cy4), (5, .int .i64 y5), (6, .int .i64 7)]) (by kernel_rfl) ?_
          rw [Option.bind_eq_some_iff] at h
          obtain ⟨os13, h, hk14⟩ := h
          refine WP.cutQ (fun L' G' Γ' => ∃ s13 : (List Int), s13 = os13 ∧ ∃ (As13 : Option Addr), ∃ (cs13 : Nat), ∃ (Cs13 : Chunk), L' = [(0, .slice Al0 l0.length cl0), (3, .bool s9), (4, .slice As13 s13.length cs13), (5, .int .i64 y5)] ∧ G = G' ∧ Cs13 :: Γ = Γ' ∧ Ow (kInt .u8) G As13 cs13 s13 Cs13) ?_ ?_
          · clear hk14
            refine WP.block ?_
            refine WP.pick [0, 3, 4, 5, 6] ?_
            refine WP.loopF (fun kn17 L' G' Γ' => ∃ (y15 : List Int), ∃ (y16 : Int), grapevineref5_All_l1 l0 y5 kn17 y15 y16 = some os13 ∧ ∃ (Ay15 : Option Addr), ∃ (cy15 : Nat), ∃ (Cy15 : Chunk), L' = [(0, .slice Al0 l0.length cl0), (3, .bool s9), (4, .slice Ay15 y15.length cy15), (5, .int .i64 y5), (6, .int .i64 y16)] ∧ G = G' ∧ Cy15 :: Γ = Γ' ∧ Ow (kInt .u8) G Ay15 cy15 y15 Cy15) ?_ kn7 ⟨y4, 7, h, Ay4, cy4, Cy4, rfl, rfl, rfl, Hy4⟩
            clear h
            rintro kn18 _ _ _ ⟨y15, y16, h, Ay15, cy15, Cy15, rfl, rfl, rfl, Hy15⟩
            cases kn18 with
            | zero => exact absurd h (by simp [grapevineref5_All_l1])
            | succ kn18 =>
              simp only [grapevineref5_All_l1] at h
              refine WP.seq ?_
              refine WP.seqP [0, 3, 4, 5, 6, 22] (L' := [(0, .slice Al0 l0.length cl0), (3, .bool s9), (4, .slice Ay15 y15.length cy15), (5, .int .i64 y5), (6, .int .i64 y16), (22, .bool (decide (y16 ≥ 0)))]) (by kernel_rfl) ?_
              refine WP.cond (b := decide (y16 ≥ 0)) (by kernel_rfl) (fun hc => ?_) (fun hc => ?_)
              · replace hc := of_decide_eq_true hc
                rw [if_pos hc] at h
                have hc19 := hc
                clear hc
                refine WP.skip ?_
                refine QP.next ?_
                refine WP.pick [0, 3, 4, 5, 6] ?_
                refine WP.seq ?_
                refine WP.block ?_
                refine WP.region ?_
                refine WL.pure 0 3 [0, 3, 4, 5, 6, 25, 26, 27] (L' := [(0, .slice Al0 l0.length cl0), (3, .bool s9), (4, .slice Ay15 y15.length cy15), (5, .int .i64 y5), (6, .int .i64 y16), (25, .slice Ay15 y15.length cy15), (26, .slice Al0 l0.length cl0), (27, .int .i64 y5)]) (by kernel_rfl) (by decide) ?_
                by_cases hb20 : 0 ≤ y5 ∧ y5 < (l0.length : Int)
                case neg => rw [if_neg hb20] at h; cases h
                rw [if_pos hb20] at h
                refine WL.tell (op := .indexAddr 53 (.tmp 26) (.tmp 27)) (ty := 0) (d := some 28) (g := none) (by kernel_rfl) (by kernel_rfl) (by kernel_rfl) (Tells.indexAddr (A := Al0) (n := l0.length) (c := cl0) (k := .i64) (j := y5) (by kernel_rfl) (by kernel_rfl) (Hl0.isSome hb20.1 hb20.2) hb20.1 hb20.2 sl53) ?_
                refine WL.tellE (op := .load 44 (.tmp 28)) (ty := 44) (d := some 29) (g := none) (by kernel_rfl) (by kernel_rfl) (by kernel_rfl) (Hl0.load (agg := false) hb20.1 hb20.2 0 ag44 (fun _ => rfl) (by kernel_rfl)) ?_
                rintro _ rfl
                refine WL.pure 5 7 [0, 3, 4, 5, 6, 25, 29, 31] (L' := [(0, .slice Al0 l0.length cl0), (3, .bool s9), (4, .slice Ay15 y15.length cy15), (5, .int .i64 y5), (6, .int .i64 y16), (25, .slice Ay15 y15.length cy15), (29, .int .u64 (l0.getD y5.toNat 0)), (31, .int .i64 (IntKind.i64.wrap (8 * y16)))]) (by kernel_rfl) (by decide) ?_
                by_cases hb21 : 0 ≤ (IntKind.i64.wrap (8 * y16))
                case neg => rw [if_neg hb21] at h; cases h
                rw [if_pos hb21] at h
                refine WL.tell (op := .binOp .shr 44 (.tmp 29) (.tmp 31) 3) (ty := 44) (d := some 32) (g := none) (by kernel_rfl) (by kernel_rfl) (by kernel_rfl) (Tells.shr (k := .u64) (k' := .i64) (a := (l0.getD y5.toNat 0)) (b := (IntKind.i64.wrap (8 * y16))) (by kernel_rfl) (by kernel_rfl) hb21) ?_
                refine WL.pure 8 9 [0, 3, 4, 5, 6, 25, 33] (L' := [(0, .slice Al0 l0.length cl0), (3, .bool s9), (4, .slice Ay15 y15.length cy15), (5, .int .i64 y5), (6, .int .i64 y16), (25, .slice Ay15 y15.length cy15), (33, .int .u8 (IntKind.u8.wrap (shrK .u64 (l0.getD y5.toNat 0) (IntKind.i64.wrap (8 * y16)))))]) (by kernel_rfl) (by decide) ?_
                refine WL.op (op := .buildSlice 55 1 #[(0, (.tmp 33))]) (ty := 55) (d := some 34) (g := none) (by kernel_rfl) (by kernel_rfl) (by kernel_rfl) (Does.new (o := .cells #[.int .u8 (IntKind.u8.wrap (shrK .u64 (l0.getD y5.toNat 0) (IntKind.i64.wrap (8 * y16))))] 5 (0, 0)) (v := fun r => .slice (some ⟨r, 0, none⟩) 1 1) (fun r => by kernel_rfl)) ?_
                rintro _ _ _ ⟨b22, rfl, rfl, rfl⟩
                have Ho24 : Ow (kInt .u8) G (some ⟨b22, 0, none⟩) 1 ([IntKind.u8.wrap (shrK .u64 (l0.getD y5.toNat 0) (IntKind.i64.wrap (8 * y16)))] : List Int) [(b22, .cells #[.int .u8 (IntKind.u8.wrap (shrK .u64 (l0.getD y5.toNat 0) (IntKind.i64.wrap (8 * y16))))] 5 (0, 0))] := Ow.lit (kd := (kInt .u8)) (G := G) (b := b22) (T := 5) (xs := ([IntKind.u8.wrap (shrK .u64 (l0.getD y5.toNat 0) (IntKind.i64.wrap (8 * y16)))] : List Int)) (cs := [.int .u8 (IntKind.u8.wrap (shrK .u64 (l0.getD y5.toNat 0) (IntKind.i64.wrap (8 * y16))))]) (.cons (x := (IntKind.u8.wrap (shrK .u64 (l0.getD y5.toNat 0) (IntKind.i64.wrap (8 * y16))))) (cs := [.int .u8 (IntKind.u8.wrap (shrK .u64 (l0.getD y5.toNat 0) (IntKind.i64.wrap (8 * y16))))]) (by exact rfl) .nil)
                by_cases hb25 : y15.length + ([IntKind.u8.wrap (shrK .u64 (l0.getD y5.toNat 0) (IntKind.i64.wrap (8 * y16)))] : List Int).length ≤ 1073741824
                case neg => rw [if_neg hb25] at h; cases h
                rw [if_pos hb25] at h
                refine WL.op (op := .call { callee := (.builtin .append), args := #[(.tmp 25), (.tmp 34)], argTypes := #[55, 55] }) (ty := 55) (d := some 35) (g := none) (by kernel_rfl) (by kernel_rfl) (by kernel_rfl) (Ow.append (ys := ([IntKind.u8.wrap (shrK .u64 (l0.getD y5.toNat 0) (IntKind.i64.wrap (8 * y16)))] : List Int)) (v := .slice (some ⟨b22, 0, none⟩) ([IntKind.u8.wrap (shrK .u64 (l0.getD y5.toNat 0) (IntKind.i64.wrap (8 * y16)))] : List Int).length 1) Hy15 (i := 1) rfl (by kernel_rfl) (by kernel_rfl) (Ho24.src (i := 0) rfl) sl55 ze5 nt55 (by decide) hb25) ?_
                rintro _ _ _ ⟨rfl, AN26, cN26, CN26, rfl, HN26, rfl⟩
                refine WL.rest 11 [0, 3, 4, 5, 6] (L' := [(0, .slice Al0 l0.length cl0), (3, .bool s9), (4, .slice AN26 (y15 ++ ([IntKind.u8.wrap (shrK .u64 (l0.getD y5.toNat 0) (IntKind.i64.wrap (8 * y16)))] : List Int)).length cN26), (5, .int .i64 y5), (6, .int .i64 y16)]) (by kernel_rfl) ?_
                refine QP.blockN ?_
                refine QP.next ?_
                refine WP.pick [0, 3, 4, 5, 6] ?_
                refine WP.regionP [0, 3, 4, 5, 6] (L' := [(0, .slice Al0 l0.length cl0), (3, .bool s9), (4, .slice AN26 (y15 ++ ([IntKind.u8.wrap (shrK .u64 (l0.getD y5.toNat 0) (IntKind.i64.wrap (8 * y16)))] : List Int)).length cN26), (5, .int .i64 y5), (6, .int .i64 (IntKind.i64.wrap (y16 - 1)))]) (by kernel_rfl) ?_
                refine QP.dropAt 0 ?_
                refine QP.pick [0, 3, 4, 5, 6] ?_
                exact QP.meet ⟨kn18, Nat.lt_succ_self _, (y15 ++ ([IntKind.u8.wrap (shrK .u64 (l0.getD y5.toNat 0) (IntKind.i64.wrap (8 * y16)))] : List Int)), (IntKind.i64.wrap (y16 - 1)), h, AN26, cN26, CN26, rfl, rfl, rfl, HN26⟩
              · replace hc := of_decide_eq_false hc
                rw [if_neg hc] at h
                have hc19 := hc
                clear hc
                refine WP.exit ?_
                refine QP.thenE ?_
                refine QP.thenE ?_
                refine QP.blockE ?_
                refine QP.pick [0, 3, 4, 5] ?_
                exact QP.meet ⟨_, Option.some.inj h, Ay15, cy15, Cy15, rfl, rfl, rfl, Hy15⟩
          · rintro _ _ _ ⟨s13, rfl, As13, cs13, Cs13, rfl, rfl, rfl, Hs13⟩
            clear h
            replace h := hk14
            refine QP.blockN ?_
            refine QP.next ?_
            refine WP.pick [0, 3, 4, 5] ?_
            refine WP.regionP [0, 3, 4, 5] (L' := [(0, .slice Al0 l0.length cl0), (3, .bool s9), (4, .slice As13 s13.length cs13), (5, .int .i64 (IntKind.i64.wrap (y5 + 1)))]) (by kernel_rfl) ?_
            refine QP.pick [0, 3, 4, 5] ?_
            exact QP.meet ⟨kn7, Nat.lt_succ_self _, s9, s13, (IntKind.i64.wrap (y5 + 1)), h, As13, cs13, Cs13, rfl, rfl, rfl, Hs13⟩
      · replace hc := of_decide_eq_false hc
        rw [if_neg hc] at h
        have hc8 := hc
        clear hc
        refine WP.exit ?_
        refine QP.thenE ?_
        refine QP.thenE ?_
        refine QP.blockE ?_
        refine QP.pick [3, 4] ?_
        exact QP.meet ⟨_, Option.some.inj h, Ay4, cy4, Cy4, rfl, rfl, rfl, Hy4⟩
  · rintro _ _ _ ⟨s1, rfl, As1_2, cs1_2, Cs1_2, rfl, rfl, rfl, Hs1_2⟩
    clear h
    replace h := hk2
    refine QP.next ?_
    refine WP.pick [3, 4] ?_
    refine WP.seq ?_
    refine WP.seqP [4, 37] (L' := [(4, .slice As1_2 s1.2.length cs1_2), (37, .bool (!s1.1))]) (by kernel_rfl) ?_
    refine WP.cond (b := (!s1.1)) (by kernel_rfl) (fun hc => ?_) (fun hc => ?_)
    · replace hc := hc
      rw [if_pos hc] at h
      have hc27 := hc
      clear hc
      refine WP.seqP [2] (L' := [(2, .int .u64 0)]) (by kernel_rfl) ?_
      refine WP.dropAt 0 ?_
      refine WP.ret ?_
      refine QP.thenR ?_
      obtain rfl := Option.some.inj h
      exact QP.returned [2] [.int .u64 0] _ (by kernel_rfl) (by kernel_rfl) (by kernel_rfl) (fun W hI => ⟨_, _, _, rfl, ⟨rfl, rfl, rfl⟩, hI⟩)
    · replace hc := (Bool.eq_false_iff.1 hc)
      rw [if_neg hc] at h
      have hc27 := hc
      clear hc
      refine WP.skip ?_
      refine QP.next ?_
      refine WP.pick [4] ?_
      refine WP.seqR ?_
      refine WL.pure 0 1 [38] (L' := [(38, .slice As1_2 s1.2.length cs1_2)]) (by kernel_rfl) (by decide) ?_
      rw [Option.bind_eq_some_iff] at h
      obtain ⟨t28, ht29, h⟩ := h
      refine WL.op (op := .call { callee := (.value (.func 30)), args := #[(.tmp 38)], argTypes := #[55] }) (ty := 44) (d := some 39) (g := none) (by kernel_rfl) (by kernel_rfl) (by kernel_rfl) (Does.call (Φ := fun v' G' Γ' => v' = .int .u64 t28 ∧ G = G' ∧ Cs1_2 :: Γ = Γ') (f := 30) (args := [.slice As1_2 s1.2.length cs1_2]) (by kernel_rfl) (fun W hI => (Calls.lendN (Φ := fun v' N => v' = .int .u64 t28 ∧ N = []) (H := []) (i := 0) rfl hI (fun _ e l32 nl32 hI => by subst e; exact (((grapevineref5_One_calls k s1.2 As1_2 cs1_2 (Hs1_2.rdN l32 nl32) t28 ht29 hI)).mono fun _ _ hr => by obtain ⟨_, _, _, rfl, hd, hI⟩ := hr; obtain ⟨rfl, rfl, rfl⟩ := hd; exact ⟨_, _, _, rfl, ⟨[], ⟨rfl, rfl⟩, rfl, rfl⟩, hI⟩))).mono fun _ _ hr => by obtain ⟨_, _, _, rfl, ⟨_, hd, rfl, rfl⟩, hI⟩ := hr; obtain ⟨rfl, rfl⟩ := hd; exact ⟨_, _, _, rfl, ⟨rfl, rfl, rfl⟩, hI⟩)) ?_
      rintro _ _ _ ⟨rfl, rfl, rfl⟩
      refine WL.restQ 2 [2] (L' := [(2, .int .u64 t28)]) (by kernel_rfl) ?_
      refine WP.dropAt 0 ?_
      refine WP.ret ?_
      obtain rfl := Option.some.inj h
      exact QP.returned [2] [.int .u64 t28] _ (by kernel_rfl) (by kernel_rfl) (by kernel_rfl) (fun W hI => ⟨_, _, _, rfl, ⟨rfl, rfl, rfl⟩, hI⟩)
end Go.Proofs.YtajhihpaccggdaaDoor.Gf
