/- Walks of Go functions: what each tells, as a plain Lean function, and that the Go code comes to it. Written by gg.py of this repo. -/
import Derived.Test.YtfocilpnbiciaaaDoorT
import Derived.Test.YtfocilpnbiciaaaDoorF4
import Derived.Test.YtfocilpnbiciaaaDoorF5
import Derived.Test.YtfocilpnbiciaaaDoorF8
namespace Go.Proofs.YtfocilpnbiciaaaDoor.Gf
open Go Go.Gg
set_option maxRecDepth 100000
set_option linter.unusedVariables false
set_option linter.unusedSimpArgs false

/-! ### grapevine/grapevineref8.take: function 77 -/
def grapevineref8_take_l0 (l0 : List Int) (a1 : Int) (a2 : Int) : Nat → (List Int) → Int → Option (List Int)
  | 0, _, _ => none
  | k + 1, y12, y13 => (if y13 < a2 then ((grapevineref4_Get k l0 (IntKind.i64.wrap ((IntKind.i64.wrap (a1 + 1)) + (IntKind.i64.wrap (2 * y13)))) 2).bind fun t17 => (if y12.length + ([t17.1] : List Int).length ≤ 1073741824 then grapevineref8_take_l0 l0 a1 a2 k (y12 ++ ([t17.1] : List Int)) (IntKind.i64.wrap (y13 + 1)) else none)) else some y12)
def grapevineref8_take (k : Nat) (l0 : List Int) (a1 : Int) (a2 : Int) : Option ((List Int) × Int × Bool) := ((grapevineref4_Get k l0 a1 1).bind fun t1 => ((if (!t1.2) = true then some true else (if ¬ t1.1 = a2 then some true else some (decide ((IntKind.i64.wrap (2 * a2)) > (IntKind.i64.wrap ((IntKind.i64.wrap ((l0.length : Int) - a1)) - 1)))))).bind fun s5 => (if s5 = true then some (([] : List Int), 0, false) else ((grapevineref8_take_l0 l0 a1 a2 k ([] : List Int) 0).bind fun s10 => some (s10, IntKind.i64.wrap ((IntKind.i64.wrap (a1 + 1)) + (IntKind.i64.wrap (2 * a2))), true)))))
set_option maxHeartbeats 4000000 in
theorem grapevineref8_take_calls {B : World} {G : GMap} {Γ : List Chunk} {W : World} (k : Nat) (l0 : List Int) (a1 : Int) (a2 : Int) (Al0 : Option Addr) (cl0 : Nat) (Hl0 : Rd (kInt .u8) G Al0 cl0 l0) (r : (List Int) × Int × Bool) (h : grapevineref8_take k l0 a1 a2 = some r) (hI : Inv B G (Γ) W) :
    Calls Tryd.prog 77 [.slice Al0 l0.length cl0, .int .i64 a1, .int .i64 a2].toArray W (Ret B (fun v G' Γ' => ∃ (AR0 : Option Addr), ∃ (cR0 : Nat), ∃ (CR0 : Chunk), v = .tuple #[.slice AR0 r.1.length cR0, .int .i64 r.2.1, .bool r.2.2] ∧ Ow (kInt .i64) G' AR0 cR0 r.1 CR0 ∧ G = G' ∧ CR0 :: Γ = Γ')) := by
  refine calls_WP (Γ := Γ) (G := G) (B := B) Tryd.func77 rfl (by kernel_rfl) ?_ hI
  clear hI
  unfold grapevineref8_take at h
  refine WP.seqP [0, 1, 2] (L' := [(0, .slice Al0 l0.length cl0), (1, .int .i64 a1), (2, .int .i64 a2)]) (by kernel_rfl) ?_
  refine WP.seqR ?_
  refine WL.pure 0 2 [0, 1, 2, 16, 17] (L' := [(0, .slice Al0 l0.length cl0), (1, .int .i64 a1), (2, .int .i64 a2), (16, .slice Al0 l0.length cl0), (17, .int .i64 a1)]) (by kernel_rfl) (by decide) ?_
  rw [Option.bind_eq_some_iff] at h
  obtain ⟨t1, ht2, h⟩ := h
  refine WL.op (op := .call { callee := (.value (.func 49)), args := #[(.tmp 16), (.tmp 17), (.const (.int .i64 1))], argTypes := #[22, 3, 3] }) (ty := 85) (d := some 18) (g := none) (by kernel_rfl) (by kernel_rfl) (by kernel_rfl) (Does.call (f := 49) (args := [.slice Al0 l0.length cl0, .int .i64 a1, .int .i64 1]) (by kernel_rfl) (fun W hI => (grapevineref4_Get_calls k l0 a1 1 Al0 cl0 Hl0 t1 ht2 hI))) ?_
  rintro _ _ _ ⟨rfl, rfl, rfl⟩
  refine WL.restQ 3 [0, 1, 2, 9, 10] (L' := [(0, .slice Al0 l0.length cl0), (1, .int .i64 a1), (2, .int .i64 a2), (9, .int .i64 t1.1), (10, .bool t1.2)]) (by kernel_rfl) ?_
  refine WP.seq ?_
  rw [Option.bind_eq_some_iff] at h
  obtain ⟨os5, h, hk6⟩ := h
  refine WP.cut (fun L' G' Γ' => ∃ s5 : Bool, s5 = os5 ∧ L' = [(0, .slice Al0 l0.length cl0), (1, .int .i64 a1), (2, .int .i64 a2), (37, .bool s5)] ∧ G = G' ∧ Γ = Γ') ?_ ?_
  · clear hk6
    refine WP.region ?_
    refine WL.pure 0 3 [0, 1, 2, 9, 23] (L' := [(0, .slice Al0 l0.length cl0), (1, .int .i64 a1), (2, .int .i64 a2), (9, .int .i64 t1.1), (23, .bool (!t1.2))]) (by kernel_rfl) (by decide) ?_
    refine WL.split 23 (b := (!t1.2)) (by kernel_rfl) (fun hc => ?_) (fun hc => ?_)
    · replace hc := hc
      rw [if_pos hc] at h
      have hc7 := hc
      clear hc
      refine WL.rest 3 [0, 1, 2, 37] (L' := [(0, .slice Al0 l0.length cl0), (1, .int .i64 a1), (2, .int .i64 a2), (37, .bool true)]) (by kernel_rfl) ?_
      refine QP.pick [0, 1, 2, 37] ?_
      exact QP.meet ⟨_, Option.some.inj h, rfl, rfl, rfl⟩
    · replace hc := (Bool.eq_false_iff.1 hc)
      rw [if_neg hc] at h
      have hc7 := hc
      clear hc
      refine WL.pure 3 8 [0, 1, 2, 28] (L' := [(0, .slice Al0 l0.length cl0), (1, .int .i64 a1), (2, .int .i64 a2), (28, .bool (t1.1 != a2))]) (by kernel_rfl) (by decide) ?_
      refine WL.split 28 (b := (t1.1 != a2)) (by kernel_rfl) (fun hc => ?_) (fun hc => ?_)
      · replace hc := (bne_iff_ne.1 hc)
        rw [if_pos hc] at h
        have hc8 := hc
        clear hc
        refine WL.rest 8 [0, 1, 2, 37] (L' := [(0, .slice Al0 l0.length cl0), (1, .int .i64 a1), (2, .int .i64 a2), (37, .bool true)]) (by kernel_rfl) ?_
        refine QP.pick [0, 1, 2, 37] ?_
        exact QP.meet ⟨_, Option.some.inj h, rfl, rfl, rfl⟩
      · replace hc := (not_not_intro (bne_eq_false_iff_eq.1 hc))
        rw [if_neg hc] at h
        have hc8 := hc
        clear hc
        refine WL.rest 8 [0, 1, 2, 37] (L' := [(0, .slice Al0 l0.length cl0), (1, .int .i64 a1), (2, .int .i64 a2), (37, .bool (decide ((IntKind.i64.wrap (2 * a2)) > (IntKind.i64.wrap ((IntKind.i64.wrap ((l0.length : Int) - a1)) - 1)))))]) (by kernel_rfl) ?_
        refine QP.pick [0, 1, 2, 37] ?_
        exact QP.meet ⟨_, Option.some.inj h, rfl, rfl, rfl⟩
  · rintro _ _ _ ⟨s5, rfl, rfl, rfl, rfl⟩
    clear h
    replace h := hk6
    refine WP.cond (b := s5) (by kernel_rfl) (fun hc => ?_) (fun hc => ?_)
    · replace hc := hc
      rw [if_pos hc] at h
      have hc9 := hc
      clear hc
      refine WP.seqP [6, 7, 8] (L' := [(6, .slice none 0 0), (7, .int .i64 0), (8, .bool false)]) (by kernel_rfl) ?_
      refine WP.ret ?_
      refine QP.thenR ?_
      obtain rfl := Option.some.inj h
      refine QP.addNil ?_
      exact QP.returned [6, 7, 8] [.slice none ([] : List Int).length 0, .int .i64 0, .bool false] _ (by kernel_rfl) (by kernel_rfl) (by kernel_rfl) (fun W hI => ⟨_, _, _, rfl, ⟨none, 0, [], rfl, (Ow.nil (kInt .i64) _), rfl, rfl⟩, hI⟩)
    · replace hc := (Bool.eq_false_iff.1 hc)
      rw [if_neg hc] at h
      have hc9 := hc
      clear hc
      refine WP.skip ?_
      refine QP.next ?_
      refine WP.pick [0, 1, 2] ?_
      refine WP.seqP [0, 1, 2, 11] (L' := [(0, .slice Al0 l0.length cl0), (1, .int .i64 a1), (2, .int .i64 a2), (11, .slice none 0 0)]) (by kernel_rfl) ?_
      refine WP.seq ?_
      refine WP.seqP [0, 1, 2, 11, 12] (L' := [(0, .slice Al0 l0.length cl0), (1, .int .i64 a1), (2, .int .i64 a2), (11, .slice none 0 0), (12, .int .i64 0)]) (by kernel_rfl) ?_
      rw [Option.bind_eq_some_iff] at h
      obtain ⟨os10, h, hk11⟩ := h
      refine WP.cutQ (fun L' G' Γ' => ∃ s10 : (List Int), s10 = os10 ∧ ∃ (As10 : Option Addr), ∃ (cs10 : Nat), ∃ (Cs10 : Chunk), L' = [(1, .int .i64 a1), (2, .int .i64 a2), (11, .slice As10 s10.length cs10)] ∧ G = G' ∧ Cs10 :: Γ = Γ' ∧ Ow (kInt .i64) G As10 cs10 s10 Cs10) ?_ ?_
      · clear hk11
        refine WP.block ?_
        refine WP.addNil ?_
        refine WP.pick [0, 1, 2, 11, 12] ?_
        refine WP.loopF (fun kn14 L' G' Γ' => ∃ (y12 : List Int), ∃ (y13 : Int), grapevineref8_take_l0 l0 a1 a2 kn14 y12 y13 = some os10 ∧ ∃ (Ay12 : Option Addr), ∃ (cy12 : Nat), ∃ (Cy12 : Chunk), L' = [(0, .slice Al0 l0.length cl0), (1, .int .i64 a1), (2, .int .i64 a2), (11, .slice Ay12 y12.length cy12), (12, .int .i64 y13)] ∧ G = G' ∧ Cy12 :: Γ = Γ' ∧ Ow (kInt .i64) G Ay12 cy12 y12 Cy12) ?_ k ⟨([] : List Int), 0, h, none, 0, [], rfl, rfl, rfl, (Ow.nil (kInt .i64) _)⟩
        clear h
        rintro kn15 _ _ _ ⟨y12, y13, h, Ay12, cy12, Cy12, rfl, rfl, rfl, Hy12⟩
        cases kn15 with
        | zero => exact absurd h (by simp [grapevineref8_take_l0])
        | succ kn15 =>
          simp only [grapevineref8_take_l0] at h
          refine WP.seq ?_
          refine WP.seqP [0, 1, 2, 11, 12, 40] (L' := [(0, .slice Al0 l0.length cl0), (1, .int .i64 a1), (2, .int .i64 a2), (11, .slice Ay12 y12.length cy12), (12, .int .i64 y13), (40, .bool (decide (y13 < a2)))]) (by kernel_rfl) ?_
          refine WP.cond (b := decide (y13 < a2)) (by kernel_rfl) (fun hc => ?_) (fun hc => ?_)
          · replace hc := of_decide_eq_true hc
            rw [if_pos hc] at h
            have hc16 := hc
            clear hc
            refine WP.skip ?_
            refine QP.next ?_
            refine WP.pick [0, 1, 2, 11, 12] ?_
            refine WP.seq ?_
            refine WP.block ?_
            refine WP.seqR ?_
            refine WL.pure 0 6 [0, 1, 2, 11, 12, 44, 49] (L' := [(0, .slice Al0 l0.length cl0), (1, .int .i64 a1), (2, .int .i64 a2), (11, .slice Ay12 y12.length cy12), (12, .int .i64 y13), (44, .slice Al0 l0.length cl0), (49, .int .i64 (IntKind.i64.wrap ((IntKind.i64.wrap (a1 + 1)) + (IntKind.i64.wrap (2 * y13)))))]) (by kernel_rfl) (by decide) ?_
            rw [Option.bind_eq_some_iff] at h
            obtain ⟨t17, ht18, h⟩ := h
            refine WL.op (op := .call { callee := (.value (.func 49)), args := #[(.tmp 44), (.tmp 49), (.const (.int .i64 2))], argTypes := #[22, 3, 3] }) (ty := 85) (d := some 50) (g := none) (by kernel_rfl) (by kernel_rfl) (by kernel_rfl) (Does.call (f := 49) (args := [.slice Al0 l0.length cl0, .int .i64 (IntKind.i64.wrap ((IntKind.i64.wrap (a1 + 1)) + (IntKind.i64.wrap (2 * y13)))), .int .i64 2]) (by kernel_rfl) (fun W hI => (grapevineref4_Get_calls kn15 l0 (IntKind.i64.wrap ((IntKind.i64.wrap (a1 + 1)) + (IntKind.i64.wrap (2 * y13)))) 2 Al0 cl0 Hl0 t17 ht18 hI))) ?_
            rintro _ _ _ ⟨rfl, rfl, rfl⟩
            refine WL.restQ 7 [0, 1, 2, 11, 12, 13] (L' := [(0, .slice Al0 l0.length cl0), (1, .int .i64 a1), (2, .int .i64 a2), (11, .slice Ay12 y12.length cy12), (12, .int .i64 y13), (13, .int .i64 t17.1)]) (by kernel_rfl) ?_
            refine WP.region ?_
            refine WL.pure 0 2 [0, 1, 2, 11, 12, 53, 54] (L' := [(0, .slice Al0 l0.length cl0), (1, .int .i64 a1), (2, .int .i64 a2), (11, .slice Ay12 y12.length cy12), (12, .int .i64 y13), (53, .slice Ay12 y12.length cy12), (54, .int .i64 t17.1)]) (by kernel_rfl) (by decide) ?_
            refine WL.op (op := .buildSlice 32 1 #[(0, (.tmp 54))]) (ty := 32) (d := some 55) (g := none) (by kernel_rfl) (by kernel_rfl) (by kernel_rfl) (Does.new (o := .cells #[.int .i64 t17.1] 3 (0, 0)) (v := fun r => .slice (some ⟨r, 0, none⟩) 1 1) (fun r => by kernel_rfl)) ?_
            rintro _ _ _ ⟨b21, rfl, rfl, rfl⟩
            have Ho23 : Ow (kInt .i64) G (some ⟨b21, 0, none⟩) 1 ([t17.1] : List Int) [(b21, .cells #[.int .i64 t17.1] 3 (0, 0))] := Ow.lit (kd := (kInt .i64)) (G := G) (b := b21) (T := 3) (xs := ([t17.1] : List Int)) (cs := [.int .i64 t17.1]) (.cons (x := t17.1) (cs := [.int .i64 t17.1]) (by exact rfl) .nil)
            by_cases hb24 : y12.length + ([t17.1] : List Int).length ≤ 1073741824
            case neg => rw [if_neg hb24] at h; cases h
            rw [if_pos hb24] at h
            refine WL.op (op := .call { callee := (.builtin .append), args := #[(.tmp 53), (.tmp 55)], argTypes := #[32, 32] }) (ty := 32) (d := some 56) (g := none) (by kernel_rfl) (by kernel_rfl) (by kernel_rfl) (Ow.append (ys := ([t17.1] : List Int)) (v := .slice (some ⟨b21, 0, none⟩) ([t17.1] : List Int).length 1) Hy12 (i := 1) rfl (by kernel_rfl) (by kernel_rfl) (Ho23.src (i := 0) rfl) sl32 ze3 nt32 (by decide) hb24) ?_
            rintro _ _ _ ⟨rfl, AN25, cN25, CN25, rfl, HN25, rfl⟩
            refine WL.rest 4 [0, 1, 2, 11, 12] (L' := [(0, .slice Al0 l0.length cl0), (1, .int .i64 a1), (2, .int .i64 a2), (11, .slice AN25 (y12 ++ ([t17.1] : List Int)).length cN25), (12, .int .i64 y13)]) (by kernel_rfl) ?_
            refine QP.blockN ?_
            refine QP.next ?_
            refine WP.pick [0, 1, 2, 11, 12] ?_
            refine WP.regionP [0, 1, 2, 11, 12] (L' := [(0, .slice Al0 l0.length cl0), (1, .int .i64 a1), (2, .int .i64 a2), (11, .slice AN25 (y12 ++ ([t17.1] : List Int)).length cN25), (12, .int .i64 (IntKind.i64.wrap (y13 + 1)))]) (by kernel_rfl) ?_
            refine QP.dropAt 0 ?_
            refine QP.pick [0, 1, 2, 11, 12] ?_
            exact QP.meet ⟨kn15, Nat.lt_succ_self _, (y12 ++ ([t17.1] : List Int)), (IntKind.i64.wrap (y13 + 1)), h, AN25, cN25, CN25, rfl, rfl, rfl, HN25⟩
          · replace hc := of_decide_eq_false hc
            rw [if_neg hc] at h
            have hc16 := hc
            clear hc
            refine WP.exit ?_
            refine QP.thenE ?_
            refine QP.thenE ?_
            refine QP.blockE ?_
            refine QP.pick [1, 2, 11] ?_
            exact QP.meet ⟨_, Option.some.inj h, Ay12, cy12, Cy12, rfl, rfl, rfl, Hy12⟩
      · rintro _ _ _ ⟨s10, rfl, As10, cs10, Cs10, rfl, rfl, rfl, Hs10⟩
        clear h
        replace h := hk11
        refine QP.next ?_
        refine WP.pick [1, 2, 11] ?_
        refine WP.seqP [6, 7, 8] (L' := [(6, .slice As10 s10.length cs10), (7, .int .i64 (IntKind.i64.wrap ((IntKind.i64.wrap (a1 + 1)) + (IntKind.i64.wrap (2 * a2))))), (8, .bool true)]) (by kernel_rfl) ?_
        refine WP.ret ?_
        obtain rfl := Option.some.inj h
        exact QP.returned [6, 7, 8] [.slice As10 s10.length cs10, .int .i64 (IntKind.i64.wrap ((IntKind.i64.wrap (a1 + 1)) + (IntKind.i64.wrap (2 * a2)))), .bool true] _ (by kernel_rfl) (by kernel_rfl) (by kernel_rfl) (fun W hI => ⟨_, _, _, rfl, ⟨As10, cs10, Cs10, rfl, Hs10, rfl, rfl⟩, hI⟩)

/-! ### grapevine/grapevineref8.blank: function 89 -/
def grapevineref8_blank (a0 : T39) : Option Bool := some (decide (a0 = (⟨0, 0, 0, 0, (⟨#[]⟩ : ByteArray)⟩ : T39)))
set_option maxHeartbeats 4000000 in
theorem grapevineref8_blank_calls {B : World} {G : GMap} {Γ : List Chunk} {W : World} (a0 : T39) (r : Bool) (h : grapevineref8_blank a0 = some r) (hI : Inv B G (Γ) W) :
    Calls Tryd.prog 89 [.agg #[.int .i64 a0.f0, .int .i64 a0.f1, .int .i64 a0.f2, .int .i64 a0.f3, .string a0.f4]].toArray W (Ret B (fun v G' Γ' => v = .bool r ∧ G = G' ∧ Γ = Γ')) := by
  refine calls_WP (Γ := Γ) (G := G) (B := B) Tryd.func89 rfl (by kernel_rfl) ?_ hI
  clear hI
  unfold grapevineref8_blank at h
  refine WP.seqR ?_
  refine WL.op (op := .box 39 (.tmp 0)) (ty := 0) (d := some 1) (g := none) (by kernel_rfl) (by kernel_rfl) (by kernel_rfl) (Does.new (o := .cells #[.int .i64 a0.f0, .int .i64 a0.f1, .int .i64 a0.f2, .int .i64 a0.f3, .string a0.f4] 39 (0, 0)) (v := fun r => .pointer (some ⟨r, 0, none⟩)) (fun r => by kernel_rfl)) ?_
  rintro _ _ _ ⟨b1, rfl, rfl, rfl⟩
  refine WL.restQ 1 [1] (L' := [(1, .pointer (some ⟨b1, 0, none⟩))]) (by kernel_rfl) ?_
  refine WP.seqR ?_
  refine WL.tell (op := .load 39 (.tmp 1)) (ty := 39) (d := some 3) (g := none) (by kernel_rfl) (by kernel_rfl) (by kernel_rfl) (Tells.load_box (i := 0) (b := b1) (o := 0) (agg := true) (by rfl) ag39 (by kernel_rfl) (fun h => by cases h) (Nat.le_of_ble_eq_true rfl) (v := .agg #[.int .i64 a0.f0, .int .i64 a0.f1, .int .i64 a0.f2, .int .i64 a0.f3, .string a0.f4]) (by kernel_rfl)) ?_
  refine WL.pure 1 2 [3, 4] (L' := [(3, .agg #[.int .i64 a0.f0, .int .i64 a0.f1, .int .i64 a0.f2, .int .i64 a0.f3, .string a0.f4]), (4, .agg #[.int .i64 0, .int .i64 0, .int .i64 0, .int .i64 0, .string (⟨#[]⟩ : ByteArray)])]) (by kernel_rfl) (by decide) ?_
  refine WL.tell (op := .binOp .eql 39 (.tmp 3) (.tmp 4) 39) (ty := 4) (d := some 5) (g := none) (by kernel_rfl) (by kernel_rfl) (by kernel_rfl) (Tells.eqAgg (xs := #[.int .i64 a0.f0, .int .i64 a0.f1, .int .i64 a0.f2, .int .i64 a0.f3, .string a0.f4]) (ys := #[.int .i64 0, .int .i64 0, .int .i64 0, .int .i64 0, .string (⟨#[]⟩ : ByteArray)]) (ls := [.int a0.f0 0, .int a0.f1 0, .int a0.f2 0, .int a0.f3 0, .str a0.f4 (⟨#[]⟩ : ByteArray)]) (by kernel_rfl) (by kernel_rfl) (by kernel_rfl) eg39) ?_
  refine WL.reput 5 (v := .bool ([.int a0.f0 0, .int a0.f1 0, .int a0.f2 0, .int a0.f3 0, .str a0.f4 (⟨#[]⟩ : ByteArray)].all Lf.ok)) (v' := .bool (decide (a0 = (⟨0, 0, 0, 0, (⟨#[]⟩ : ByteArray)⟩ : T39)))) (by kernel_rfl) (by exact (congrArg Value.bool (eqT39 a0 (⟨0, 0, 0, 0, (⟨#[]⟩ : ByteArray)⟩ : T39)))) ?_
  refine WL.restQ 3 [2] (L' := [(2, .bool (decide (a0 = (⟨0, 0, 0, 0, (⟨#[]⟩ : ByteArray)⟩ : T39))))]) (by kernel_rfl) ?_
  refine WP.dropAt 0 ?_
  refine WP.ret ?_
  obtain rfl := Option.some.inj h
  exact QP.returned [2] [.bool (decide (a0 = (⟨0, 0, 0, 0, (⟨#[]⟩ : ByteArray)⟩ : T39)))] _ (by kernel_rfl) (by kernel_rfl) (by kernel_rfl) (fun W hI => ⟨_, _, _, rfl, ⟨rfl, rfl, rfl⟩, hI⟩)

/-! ### grapevine/grapevineref8.May: function 78 -/
def grapevineref8_May (k : Nat) (a0 : T41) (a1 : Int) : Option Bool := (if a0.f0 = 1 then (((grapevineref3_May k a0.f1 a1).bind fun t5 => (if t5 = true then ((grapevineref3_May k a0.f2 a1).bind fun t10 => (if t10 = true then ((grapevineref3_Below k a0.f2 a0.f1).bind fun t15 => (if t15 = true then ((grapevineref8_blank (⟨a0.f3, a0.f4, a0.f5, a0.f6, a0.f7⟩ : T39)).bind fun t20 => some t20) else some false)) else some false)) else some false)).bind fun s3 => some s3) else (if a0.f0 = 2 then (((grapevineref3_Many a1).bind fun t27 => (if t27 = true then ((grapevineref4_May (⟨a0.f3, a0.f4, a0.f5, a0.f6, a0.f7⟩ : T39)).bind fun t32 => (if t32 = true then (if a0.f3 < a1 then (if (a0.f1.length : Int) = 0 then some ((a0.f2.length : Int) == 0) else some false) else some false) else some false)) else some false)).bind fun s25 => some s25) else (if a0.f0 = 3 then (((grapevineref3_May k a0.f2 a1).bind fun t42 => (if t42 = true then (if (a0.f1.length : Int) = 0 then ((grapevineref8_blank (⟨a0.f3, a0.f4, a0.f5, a0.f6, a0.f7⟩ : T39)).bind fun t48 => some t48) else some false) else some false)).bind fun s40 => some s40) else some false)))
set_option maxHeartbeats 4000000 in
theorem grapevineref8_May_calls {B : World} {G : GMap} {Γ : List Chunk} {W : World} (HT : Tabs B G) (k : Nat) (a0 : T41) (a1 : Int) (Aa0_f1 : Option Addr) (ca0_f1 : Nat) (Ha0_f1 : Rd (kInt .i64) G Aa0_f1 ca0_f1 a0.f1) (Aa0_f2 : Option Addr) (ca0_f2 : Nat) (Ha0_f2 : Rd (kInt .i64) G Aa0_f2 ca0_f2 a0.f2) (r : Bool) (h : grapevineref8_May k a0 a1 = some r) (hI : Inv B G (Γ) W) :
    Calls Tryd.prog 78 [.agg #[.int .i64 a0.f0, .slice Aa0_f1 a0.f1.length ca0_f1, .slice Aa0_f2 a0.f2.length ca0_f2, .int .i64 a0.f3, .int .i64 a0.f4, .int .i64 a0.f5, .int .i64 a0.f6, .string a0.f7], .int .i64 a1].toArray W (Ret B (fun v G' Γ' => v = .bool r ∧ G = G' ∧ Γ = Γ')) := by
  refine calls_WP (Γ := Γ) (G := G) (B := B) Tryd.func78 rfl (by kernel_rfl) ?_ hI
  clear hI
  unfold grapevineref8_May at h
  refine WP.seqR ?_
  refine WL.op (op := .box 41 (.tmp 0)) (ty := 0) (d := some 2) (g := none) (by kernel_rfl) (by kernel_rfl) (by kernel_rfl) (Does.new (o := .cells #[.int .i64 a0.f0, .slice Aa0_f1 a0.f1.length ca0_f1, .slice Aa0_f2 a0.f2.length ca0_f2, .int .i64 a0.f3, .int .i64 a0.f4, .int .i64 a0.f5, .int .i64 a0.f6, .string a0.f7] 41 (0, 0)) (v := fun r => .pointer (some ⟨r, 0, none⟩)) (fun r => by kernel_rfl)) ?_
  rintro _ _ _ ⟨b1, rfl, rfl, rfl⟩
  refine WL.restQ 1 [1, 2] (L' := [(1, .int .i64 a1), (2, .pointer (some ⟨b1, 0, none⟩))]) (by kernel_rfl) ?_
  refine WP.seq ?_
  refine WP.seqR ?_
  refine WL.pure 0 1 [1, 2, 5] (L' := [(1, .int .i64 a1), (2, .pointer (some ⟨b1, 0, none⟩)), (5, .pointer (some ⟨b1, 0, none⟩))]) (by kernel_rfl) (by decide) ?_
  refine WL.tell (op := .load 3 (.tmp 5)) (ty := 3) (d := some 6) (g := none) (by kernel_rfl) (by kernel_rfl) (by kernel_rfl) (Tells.load_box (i := 0) (b := b1) (o := 0) (agg := false) (by rfl) ag3 (by kernel_rfl) (fun _ => rfl) (Nat.le_of_ble_eq_true rfl) (v := .int .i64 a0.f0) (by kernel_rfl)) ?_
  refine WL.restQ 2 [1, 2, 6] (L' := [(1, .int .i64 a1), (2, .pointer (some ⟨b1, 0, none⟩)), (6, .int .i64 a0.f0)]) (by kernel_rfl) ?_
  refine WP.block ?_
  refine WP.seqP [1, 2, 6, 7] (L' := [(1, .int .i64 a1), (2, .pointer (some ⟨b1, 0, none⟩)), (6, .int .i64 a0.f0), (7, .bool (a0.f0 == 1))]) (by kernel_rfl) ?_
  refine WP.cond (b := (a0.f0 == 1)) (by kernel_rfl) (fun hc => ?_) (fun hc => ?_)
  · replace hc := eq_of_beq hc
    rw [if_pos hc] at h
    have hc2 := hc
    clear hc
    rw [Option.bind_eq_some_iff] at h
    obtain ⟨os3, h, hk4⟩ := h
    refine WP.cut (fun L' G' Γ' => ∃ s3 : Bool, s3 = os3 ∧ L' = [(4, .bool s3)] ∧ G = G' ∧ Γ = Γ') ?_ ?_
    · clear hk4
      refine WP.region ?_
      refine WL.pure 0 1 [1, 2, 9] (L' := [(1, .int .i64 a1), (2, .pointer (some ⟨b1, 0, none⟩)), (9, .pointer (some ⟨b1, 1, none⟩))]) (by kernel_rfl) (by decide) ?_
      refine WL.tell (op := .load 32 (.tmp 9)) (ty := 32) (d := some 10) (g := none) (by kernel_rfl) (by kernel_rfl) (by kernel_rfl) (Tells.load_box (i := 0) (b := b1) (o := 1) (agg := false) (by rfl) ag32 (by kernel_rfl) (fun _ => rfl) (Nat.le_of_ble_eq_true rfl) (v := .slice Aa0_f1 a0.f1.length ca0_f1) (by kernel_rfl)) ?_
      refine WL.pure 2 3 [1, 2, 10, 11] (L' := [(1, .int .i64 a1), (2, .pointer (some ⟨b1, 0, none⟩)), (10, .slice Aa0_f1 a0.f1.length ca0_f1), (11, .int .i64 a1)]) (by kernel_rfl) (by decide) ?_
      rw [Option.bind_eq_some_iff] at h
      obtain ⟨t5, ht6, h⟩ := h
      refine WL.op (op := .call { callee := (.value (.func 61)), args := #[(.tmp 10), (.tmp 11)], argTypes := #[32, 3] }) (ty := 4) (d := some 12) (g := none) (by kernel_rfl) (by kernel_rfl) (by kernel_rfl) (Does.call (f := 61) (args := [.slice Aa0_f1 a0.f1.length ca0_f1, .int .i64 a1]) (by kernel_rfl) (fun W hI => (grapevineref3_May_calls k a0.f1 a1 Aa0_f1 ca0_f1 Ha0_f1 t5 ht6 hI))) ?_
      rintro _ _ _ ⟨rfl, rfl, rfl⟩
      refine WL.pure 4 5 [1, 2, 13] (L' := [(1, .int .i64 a1), (2, .pointer (some ⟨b1, 0, none⟩)), (13, .bool t5)]) (by kernel_rfl) (by decide) ?_
      refine WL.split 13 (b := t5) (by kernel_rfl) (fun hc => ?_) (fun hc => ?_)
      · replace hc := hc
        rw [if_pos hc] at h
        have hc9 := hc
        clear hc
        refine WL.pure 5 6 [1, 2, 13, 14] (L' := [(1, .int .i64 a1), (2, .pointer (some ⟨b1, 0, none⟩)), (13, .bool true), (14, .pointer (some ⟨b1, 2, none⟩))]) (by kernel_rfl) (by decide) ?_
        refine WL.tell (op := .load 32 (.tmp 14)) (ty := 32) (d := some 15) (g := some (4, true)) (by kernel_rfl) (by kernel_rfl) (by kernel_rfl) (Tells.load_box (i := 0) (b := b1) (o := 2) (agg := false) (by rfl) ag32 (by kernel_rfl) (fun _ => rfl) (Nat.le_of_ble_eq_true rfl) (v := .slice Aa0_f2 a0.f2.length ca0_f2) (by kernel_rfl)) ?_
        refine WL.pure 7 8 [2, 13, 15, 16] (L' := [(2, .pointer (some ⟨b1, 0, none⟩)), (13, .bool true), (15, .slice Aa0_f2 a0.f2.length ca0_f2), (16, .int .i64 a1)]) (by kernel_rfl) (by decide) ?_
        rw [Option.bind_eq_some_iff] at h
        obtain ⟨t10, ht11, h⟩ := h
        refine WL.op (op := .call { callee := (.value (.func 61)), args := #[(.tmp 15), (.tmp 16)], argTypes := #[32, 3] }) (ty := 4) (d := some 17) (g := some (4, true)) (by kernel_rfl) (by kernel_rfl) (by kernel_rfl) (Does.call (f := 61) (args := [.slice Aa0_f2 a0.f2.length ca0_f2, .int .i64 a1]) (by kernel_rfl) (fun W hI => (grapevineref3_May_calls k a0.f2 a1 Aa0_f2 ca0_f2 Ha0_f2 t10 ht11 hI))) ?_
        rintro _ _ _ ⟨rfl, rfl, rfl⟩
        refine WL.pure 9 11 [2, 19] (L' := [(2, .pointer (some ⟨b1, 0, none⟩)), (19, .bool t10)]) (by kernel_rfl) (by decide) ?_
        refine WL.split 19 (b := t10) (by kernel_rfl) (fun hc => ?_) (fun hc => ?_)
        · replace hc := hc
          rw [if_pos hc] at h
          have hc14 := hc
          clear hc
          refine WL.pure 11 12 [2, 19, 20] (L' := [(2, .pointer (some ⟨b1, 0, none⟩)), (19, .bool true), (20, .pointer (some ⟨b1, 2, none⟩))]) (by kernel_rfl) (by decide) ?_
          refine WL.tell (op := .load 32 (.tmp 20)) (ty := 32) (d := some 21) (g := some (10, true)) (by kernel_rfl) (by kernel_rfl) (by kernel_rfl) (Tells.load_box (i := 0) (b := b1) (o := 2) (agg := false) (by rfl) ag32 (by kernel_rfl) (fun _ => rfl) (Nat.le_of_ble_eq_true rfl) (v := .slice Aa0_f2 a0.f2.length ca0_f2) (by kernel_rfl)) ?_
          refine WL.pure 13 14 [2, 19, 21, 22] (L' := [(2, .pointer (some ⟨b1, 0, none⟩)), (19, .bool true), (21, .slice Aa0_f2 a0.f2.length ca0_f2), (22, .pointer (some ⟨b1, 1, none⟩))]) (by kernel_rfl) (by decide) ?_
          refine WL.tell (op := .load 32 (.tmp 22)) (ty := 32) (d := some 23) (g := some (10, true)) (by kernel_rfl) (by kernel_rfl) (by kernel_rfl) (Tells.load_box (i := 0) (b := b1) (o := 1) (agg := false) (by rfl) ag32 (by kernel_rfl) (fun _ => rfl) (Nat.le_of_ble_eq_true rfl) (v := .slice Aa0_f1 a0.f1.length ca0_f1) (by kernel_rfl)) ?_
          rw [Option.bind_eq_some_iff] at h
          obtain ⟨t15, ht16, h⟩ := h
          refine WL.op (op := .call { callee := (.value (.func 62)), args := #[(.tmp 21), (.tmp 23)], argTypes := #[32, 32] }) (ty := 4) (d := some 24) (g := some (10, true)) (by kernel_rfl) (by kernel_rfl) (by kernel_rfl) (Does.call (f := 62) (args := [.slice Aa0_f2 a0.f2.length ca0_f2, .slice Aa0_f1 a0.f1.length ca0_f1]) (by kernel_rfl) (fun W hI => (grapevineref3_Below_calls k a0.f2 a0.f1 Aa0_f2 ca0_f2 Ha0_f2 Aa0_f1 ca0_f1 Ha0_f1 t15 ht16 hI))) ?_
          rintro _ _ _ ⟨rfl, rfl, rfl⟩
          refine WL.pure 16 18 [2, 26] (L' := [(2, .pointer (some ⟨b1, 0, none⟩)), (26, .bool t15)]) (by kernel_rfl) (by decide) ?_
          refine WL.split 26 (b := t15) (by kernel_rfl) (fun hc => ?_) (fun hc => ?_)
          · replace hc := hc
            rw [if_pos hc] at h
            have hc19 := hc
            clear hc
            refine WL.pure 18 19 [26, 27] (L' := [(26, .bool true), (27, .pointer (some ⟨b1, 3, none⟩))]) (by kernel_rfl) (by decide) ?_
            refine WL.tell (op := .load 39 (.tmp 27)) (ty := 39) (d := some 28) (g := some (17, true)) (by kernel_rfl) (by kernel_rfl) (by kernel_rfl) (Tells.load_box (i := 0) (b := b1) (o := 3) (agg := true) (by rfl) ag39 (by kernel_rfl) (fun h => by cases h) (Nat.le_of_ble_eq_true rfl) (v := .agg #[.int .i64 a0.f3, .int .i64 a0.f4, .int .i64 a0.f5, .int .i64 a0.f6, .string a0.f7]) (by kernel_rfl)) ?_
            rw [Option.bind_eq_some_iff] at h
            obtain ⟨t20, ht21, h⟩ := h
            refine WL.op (op := .call { callee := (.value (.func 89)), args := #[(.tmp 28)], argTypes := #[39] }) (ty := 4) (d := some 29) (g := some (17, true)) (by kernel_rfl) (by kernel_rfl) (by kernel_rfl) (Does.call (f := 89) (args := [.agg #[.int .i64 a0.f3, .int .i64 a0.f4, .int .i64 a0.f5, .int .i64 a0.f6, .string a0.f7]]) (by kernel_rfl) (fun W hI => (grapevineref8_blank_calls (⟨a0.f3, a0.f4, a0.f5, a0.f6, a0.f7⟩ : T39)  t20 ht21 hI))) ?_
            rintro _ _ _ ⟨rfl, rfl, rfl⟩
            refine WL.rest 21 [4] (L' := [(4, .bool t20)]) (by kernel_rfl) ?_
            refine QP.dropAt 0 ?_
            refine QP.pick [4] ?_
            exact QP.meet ⟨_, Option.some.inj h, rfl, rfl, rfl⟩
          · replace hc := (Bool.eq_false_iff.1 hc)
            rw [if_neg hc] at h
            have hc19 := hc
            clear hc
            refine WL.rest 18 [4] (L' := [(4, .bool false)]) (by kernel_rfl) ?_
            refine QP.dropAt 0 ?_
            refine QP.pick [4] ?_
            exact QP.meet ⟨_, Option.some.inj h, rfl, rfl, rfl⟩
        · replace hc := (Bool.eq_false_iff.1 hc)
          rw [if_neg hc] at h
          have hc14 := hc
          clear hc
          refine WL.rest 11 [4] (L' := [(4, .bool false)]) (by kernel_rfl) ?_
          refine QP.dropAt 0 ?_
          refine QP.pick [4] ?_
          exact QP.meet ⟨_, Option.some.inj h, rfl, rfl, rfl⟩
      · replace hc := (Bool.eq_false_iff.1 hc)
        rw [if_neg hc] at h
        have hc9 := hc
        clear hc
        refine WL.rest 5 [4] (L' := [(4, .bool false)]) (by kernel_rfl) ?_
        refine QP.dropAt 0 ?_
        refine QP.pick [4] ?_
        exact QP.meet ⟨_, Option.some.inj h, rfl, rfl, rfl⟩
    · rintro _ _ _ ⟨s3, rfl, rfl, rfl, rfl⟩
      clear h
      replace h := hk4
      refine WP.ret ?_
      refine QP.blockR ?_
      refine QP.thenR ?_
      obtain rfl := Option.some.inj h
      exact QP.returned [4] [.bool s3] _ (by kernel_rfl) (by kernel_rfl) (by kernel_rfl) (fun W hI => ⟨_, _, _, rfl, ⟨rfl, rfl, rfl⟩, hI⟩)
  · replace hc := ne_of_beq_false hc
    rw [if_neg hc] at h
    have hc2 := hc
    clear hc
    refine WP.seqP [1, 2, 6, 31] (L' := [(1, .int .i64 a1), (2, .pointer (some ⟨b1, 0, none⟩)), (6, .int .i64 a0.f0), (31, .bool (a0.f0 == 2))]) (by kernel_rfl) ?_
    refine WP.cond (b := (a0.f0 == 2)) (by kernel_rfl) (fun hc => ?_) (fun hc => ?_)
    · replace hc := eq_of_beq hc
      rw [if_pos hc] at h
      have hc24 := hc
      clear hc
      rw [Option.bind_eq_some_iff] at h
      obtain ⟨os25, h, hk26⟩ := h
      refine WP.cut (fun L' G' Γ' => ∃ s25 : Bool, s25 = os25 ∧ L' = [(4, .bool s25)] ∧ G = G' ∧ Γ = Γ') ?_ ?_
      · clear hk26
        refine WP.region ?_
        refine WL.pure 0 1 [1, 2, 33] (L' := [(1, .int .i64 a1), (2, .pointer (some ⟨b1, 0, none⟩)), (33, .int .i64 a1)]) (by kernel_rfl) (by decide) ?_
        rw [Option.bind_eq_some_iff] at h
        obtain ⟨t27, ht28, h⟩ := h
        refine WL.op (op := .call { callee := (.value (.func 69)), args := #[(.tmp 33)], argTypes := #[3] }) (ty := 4) (d := some 34) (g := none) (by kernel_rfl) (by kernel_rfl) (by kernel_rfl) (Does.call (f := 69) (args := [.int .i64 a1]) (by kernel_rfl) (fun W hI => (grapevineref3_Many_calls a1  t27 ht28 hI))) ?_
        rintro _ _ _ ⟨rfl, rfl, rfl⟩
        refine WL.pure 2 3 [1, 2, 35] (L' := [(1, .int .i64 a1), (2, .pointer (some ⟨b1, 0, none⟩)), (35, .bool t27)]) (by kernel_rfl) (by decide) ?_
        refine WL.split 35 (b := t27) (by kernel_rfl) (fun hc => ?_) (fun hc => ?_)
        · replace hc := hc
          rw [if_pos hc] at h
          have hc31 := hc
          clear hc
          refine WL.pure 3 4 [1, 2, 35, 36] (L' := [(1, .int .i64 a1), (2, .pointer (some ⟨b1, 0, none⟩)), (35, .bool true), (36, .pointer (some ⟨b1, 3, none⟩))]) (by kernel_rfl) (by decide) ?_
          refine WL.tell (op := .load 39 (.tmp 36)) (ty := 39) (d := some 37) (g := some (2, true)) (by kernel_rfl) (by kernel_rfl) (by kernel_rfl) (Tells.load_box (i := 0) (b := b1) (o := 3) (agg := true) (by rfl) ag39 (by kernel_rfl) (fun h => by cases h) (Nat.le_of_ble_eq_true rfl) (v := .agg #[.int .i64 a0.f3, .int .i64 a0.f4, .int .i64 a0.f5, .int .i64 a0.f6, .string a0.f7]) (by kernel_rfl)) ?_
          rw [Option.bind_eq_some_iff] at h
          obtain ⟨t32, ht33, h⟩ := h
          refine WL.op (op := .call { callee := (.value (.func 85)), args := #[(.tmp 37)], argTypes := #[39] }) (ty := 4) (d := some 38) (g := some (2, true)) (by kernel_rfl) (by kernel_rfl) (by kernel_rfl) (Does.call (f := 85) (args := [.agg #[.int .i64 a0.f3, .int .i64 a0.f4, .int .i64 a0.f5, .int .i64 a0.f6, .string a0.f7]]) (by kernel_rfl) (fun W hI => (grapevineref4_May_calls HT (⟨a0.f3, a0.f4, a0.f5, a0.f6, a0.f7⟩ : T39)  t32 ht33 hI))) ?_
          rintro _ _ _ ⟨rfl, rfl, rfl⟩
          refine WL.pure 6 8 [1, 2, 40] (L' := [(1, .int .i64 a1), (2, .pointer (some ⟨b1, 0, none⟩)), (40, .bool t32)]) (by kernel_rfl) (by decide) ?_
          refine WL.split 40 (b := t32) (by kernel_rfl) (fun hc => ?_) (fun hc => ?_)
          · replace hc := hc
            rw [if_pos hc] at h
            have hc36 := hc
            clear hc
            refine WL.pure 8 11 [1, 2, 40, 43] (L' := [(1, .int .i64 a1), (2, .pointer (some ⟨b1, 0, none⟩)), (40, .bool true), (43, .pointer (some ⟨b1, 3, none⟩))]) (by kernel_rfl) (by decide) ?_
            refine WL.tell (op := .load 3 (.tmp 43)) (ty := 3) (d := some 44) (g := some (7, true)) (by kernel_rfl) (by kernel_rfl) (by kernel_rfl) (Tells.load_box (i := 0) (b := b1) (o := 3) (agg := false) (by rfl) ag3 (by kernel_rfl) (fun _ => rfl) (Nat.le_of_ble_eq_true rfl) (v := .int .i64 a0.f3) (by kernel_rfl)) ?_
            refine WL.pure 12 16 [2, 48] (L' := [(2, .pointer (some ⟨b1, 0, none⟩)), (48, .bool (decide (a0.f3 < a1)))]) (by kernel_rfl) (by decide) ?_
            refine WL.split 48 (b := decide (a0.f3 < a1)) (by kernel_rfl) (fun hc => ?_) (fun hc => ?_)
            · replace hc := of_decide_eq_true hc
              rw [if_pos hc] at h
              have hc37 := hc
              clear hc
              refine WL.pure 16 17 [2, 48, 49] (L' := [(2, .pointer (some ⟨b1, 0, none⟩)), (48, .bool true), (49, .pointer (some ⟨b1, 1, none⟩))]) (by kernel_rfl) (by decide) ?_
              refine WL.tell (op := .load 32 (.tmp 49)) (ty := 32) (d := some 50) (g := some (15, true)) (by kernel_rfl) (by kernel_rfl) (by kernel_rfl) (Tells.load_box (i := 0) (b := b1) (o := 1) (agg := false) (by rfl) ag32 (by kernel_rfl) (fun _ => rfl) (Nat.le_of_ble_eq_true rfl) (v := .slice Aa0_f1 a0.f1.length ca0_f1) (by kernel_rfl)) ?_
              refine WL.pure 18 22 [2, 54] (L' := [(2, .pointer (some ⟨b1, 0, none⟩)), (54, .bool ((a0.f1.length : Int) == 0))]) (by kernel_rfl) (by decide) ?_
              refine WL.split 54 (b := ((a0.f1.length : Int) == 0)) (by kernel_rfl) (fun hc => ?_) (fun hc => ?_)
              · replace hc := eq_of_beq hc
                rw [if_pos hc] at h
                have hc38 := hc
                clear hc
                refine WL.pure 22 23 [54, 55] (L' := [(54, .bool true), (55, .pointer (some ⟨b1, 2, none⟩))]) (by kernel_rfl) (by decide) ?_
                refine WL.tell (op := .load 32 (.tmp 55)) (ty := 32) (d := some 56) (g := some (21, true)) (by kernel_rfl) (by kernel_rfl) (by kernel_rfl) (Tells.load_box (i := 0) (b := b1) (o := 2) (agg := false) (by rfl) ag32 (by kernel_rfl) (fun _ => rfl) (Nat.le_of_ble_eq_true rfl) (v := .slice Aa0_f2 a0.f2.length ca0_f2) (by kernel_rfl)) ?_
                refine WL.rest 24 [4] (L' := [(4, .bool ((a0.f2.length : Int) == 0))]) (by kernel_rfl) ?_
                refine QP.dropAt 0 ?_
                refine QP.pick [4] ?_
                exact QP.meet ⟨_, Option.some.inj h, rfl, rfl, rfl⟩
              · replace hc := ne_of_beq_false hc
                rw [if_neg hc] at h
                have hc38 := hc
                clear hc
                refine WL.rest 22 [4] (L' := [(4, .bool false)]) (by kernel_rfl) ?_
                refine QP.dropAt 0 ?_
                refine QP.pick [4] ?_
                exact QP.meet ⟨_, Option.some.inj h, rfl, rfl, rfl⟩
            · replace hc := of_decide_eq_false hc
              rw [if_neg hc] at h
              have hc37 := hc
              clear hc
              refine WL.rest 16 [4] (L' := [(4, .bool false)]) (by kernel_rfl) ?_
              refine QP.dropAt 0 ?_
              refine QP.pick [4] ?_
              exact QP.meet ⟨_, Option.some.inj h, rfl, rfl, rfl⟩
          · replace hc := (Bool.eq_false_iff.1 hc)
            rw [if_neg hc] at h
            have hc36 := hc
            clear hc
            refine WL.rest 8 [4] (L' := [(4, .bool false)]) (by kernel_rfl) ?_
            refine QP.dropAt 0 ?_
            refine QP.pick [4] ?_
            exact QP.meet ⟨_, Option.some.inj h, rfl, rfl, rfl⟩
        · replace hc := (Bool.eq_false_iff.1 hc)
          rw [if_neg hc] at h
          have hc31 := hc
          clear hc
          refine WL.rest 3 [4] (L' := [(4, .bool false)]) (by kernel_rfl) ?_
          refine QP.dropAt 0 ?_
          refine QP.pick [4] ?_
          exact QP.meet ⟨_, Option.some.inj h, rfl, rfl, rfl⟩
      · rintro _ _ _ ⟨s25, rfl, rfl, rfl, rfl⟩
        clear h
        replace h := hk26
        refine WP.ret ?_
        refine QP.blockR ?_
        refine QP.thenR ?_
        obtain rfl := Option.some.inj h
        exact QP.returned [4] [.bool s25] _ (by kernel_rfl) (by kernel_rfl) (by kernel_rfl) (fun W hI => ⟨_, _, _, rfl, ⟨rfl, rfl, rfl⟩, hI⟩)
    · replace hc := ne_of_beq_false hc
      rw [if_neg hc] at h
      have hc24 := hc
      clear hc
      refine WP.seqP [1, 2, 60] (L' := [(1, .int .i64 a1), (2, .pointer (some ⟨b1, 0, none⟩)), (60, .bool (a0.f0 == 3))]) (by kernel_rfl) ?_
      refine WP.cond (b := (a0.f0 == 3)) (by kernel_rfl) (fun hc => ?_) (fun hc => ?_)
      · replace hc := eq_of_beq hc
        rw [if_pos hc] at h
        have hc39 := hc
        clear hc
        rw [Option.bind_eq_some_iff] at h
        obtain ⟨os40, h, hk41⟩ := h
        refine WP.cut (fun L' G' Γ' => ∃ s40 : Bool, s40 = os40 ∧ L' = [(4, .bool s40)] ∧ G = G' ∧ Γ = Γ') ?_ ?_
        · clear hk41
          refine WP.region ?_
          refine WL.pure 0 1 [1, 2, 62] (L' := [(1, .int .i64 a1), (2, .pointer (some ⟨b1, 0, none⟩)), (62, .pointer (some ⟨b1, 2, none⟩))]) (by kernel_rfl) (by decide) ?_
          refine WL.tell (op := .load 32 (.tmp 62)) (ty := 32) (d := some 63) (g := none) (by kernel_rfl) (by kernel_rfl) (by kernel_rfl) (Tells.load_box (i := 0) (b := b1) (o := 2) (agg := false) (by rfl) ag32 (by kernel_rfl) (fun _ => rfl) (Nat.le_of_ble_eq_true rfl) (v := .slice Aa0_f2 a0.f2.length ca0_f2) (by kernel_rfl)) ?_
          refine WL.pure 2 3 [2, 63, 64] (L' := [(2, .pointer (some ⟨b1, 0, none⟩)), (63, .slice Aa0_f2 a0.f2.length ca0_f2), (64, .int .i64 a1)]) (by kernel_rfl) (by decide) ?_
          rw [Option.bind_eq_some_iff] at h
          obtain ⟨t42, ht43, h⟩ := h
          refine WL.op (op := .call { callee := (.value (.func 61)), args := #[(.tmp 63), (.tmp 64)], argTypes := #[32, 3] }) (ty := 4) (d := some 65) (g := none) (by kernel_rfl) (by kernel_rfl) (by kernel_rfl) (Does.call (f := 61) (args := [.slice Aa0_f2 a0.f2.length ca0_f2, .int .i64 a1]) (by kernel_rfl) (fun W hI => (grapevineref3_May_calls k a0.f2 a1 Aa0_f2 ca0_f2 Ha0_f2 t42 ht43 hI))) ?_
          rintro _ _ _ ⟨rfl, rfl, rfl⟩
          refine WL.pure 4 5 [2, 66] (L' := [(2, .pointer (some ⟨b1, 0, none⟩)), (66, .bool t42)]) (by kernel_rfl) (by decide) ?_
          refine WL.split 66 (b := t42) (by kernel_rfl) (fun hc => ?_) (fun hc => ?_)
          · replace hc := hc
            rw [if_pos hc] at h
            have hc46 := hc
            clear hc
            refine WL.pure 5 6 [2, 66, 67] (L' := [(2, .pointer (some ⟨b1, 0, none⟩)), (66, .bool true), (67, .pointer (some ⟨b1, 1, none⟩))]) (by kernel_rfl) (by decide) ?_
            refine WL.tell (op := .load 32 (.tmp 67)) (ty := 32) (d := some 68) (g := some (4, true)) (by kernel_rfl) (by kernel_rfl) (by kernel_rfl) (Tells.load_box (i := 0) (b := b1) (o := 1) (agg := false) (by rfl) ag32 (by kernel_rfl) (fun _ => rfl) (Nat.le_of_ble_eq_true rfl) (v := .slice Aa0_f1 a0.f1.length ca0_f1) (by kernel_rfl)) ?_
            refine WL.pure 7 11 [2, 72] (L' := [(2, .pointer (some ⟨b1, 0, none⟩)), (72, .bool ((a0.f1.length : Int) == 0))]) (by kernel_rfl) (by decide) ?_
            refine WL.split 72 (b := ((a0.f1.length : Int) == 0)) (by kernel_rfl) (fun hc => ?_) (fun hc => ?_)
            · replace hc := eq_of_beq hc
              rw [if_pos hc] at h
              have hc47 := hc
              clear hc
              refine WL.pure 11 12 [72, 73] (L' := [(72, .bool true), (73, .pointer (some ⟨b1, 3, none⟩))]) (by kernel_rfl) (by decide) ?_
              refine WL.tell (op := .load 39 (.tmp 73)) (ty := 39) (d := some 74) (g := some (10, true)) (by kernel_rfl) (by kernel_rfl) (by kernel_rfl) (Tells.load_box (i := 0) (b := b1) (o := 3) (agg := true) (by rfl) ag39 (by kernel_rfl) (fun h => by cases h) (Nat.le_of_ble_eq_true rfl) (v := .agg #[.int .i64 a0.f3, .int .i64 a0.f4, .int .i64 a0.f5, .int .i64 a0.f6, .string a0.f7]) (by kernel_rfl)) ?_
              rw [Option.bind_eq_some_iff] at h
              obtain ⟨t48, ht49, h⟩ := h
              refine WL.op (op := .call { callee := (.value (.func 89)), args := #[(.tmp 74)], argTypes := #[39] }) (ty := 4) (d := some 75) (g := some (10, true)) (by kernel_rfl) (by kernel_rfl) (by kernel_rfl) (Does.call (f := 89) (args := [.agg #[.int .i64 a0.f3, .int .i64 a0.f4, .int .i64 a0.f5, .int .i64 a0.f6, .string a0.f7]]) (by kernel_rfl) (fun W hI => (grapevineref8_blank_calls (⟨a0.f3, a0.f4, a0.f5, a0.f6, a0.f7⟩ : T39)  t48 ht49 hI))) ?_
              rintro _ _ _ ⟨rfl, rfl, rfl⟩
              refine WL.rest 14 [4] (L' := [(4, .bool t48)]) (by kernel_rfl) ?_
              refine QP.dropAt 0 ?_
              refine QP.pick [4] ?_
              exact QP.meet ⟨_, Option.some.inj h, rfl, rfl, rfl⟩
            · replace hc := ne_of_beq_false hc
              rw [if_neg hc] at h
              have hc47 := hc
              clear hc
              refine WL.rest 11 [4] (L' := [(4, .bool false)]) (by kernel_rfl) ?_
              refine QP.dropAt 0 ?_
              refine QP.pick [4] ?_
              exact QP.meet ⟨_, Option.some.inj h, rfl, rfl, rfl⟩
          · replace hc := (Bool.eq_false_iff.1 hc)
            rw [if_neg hc] at h
            have hc46 := hc
            clear hc
            refine WL.rest 5 [4] (L' := [(4, .bool false)]) (by kernel_rfl) ?_
            refine QP.dropAt 0 ?_
            refine QP.pick [4] ?_
            exact QP.meet ⟨_, Option.some.inj h, rfl, rfl, rfl⟩
        · rintro _ _ _ ⟨s40, rfl, rfl, rfl, rfl⟩
          clear h
          replace h := hk41
          refine WP.ret ?_
          refine QP.blockR ?_
          refine QP.thenR ?_
          obtain rfl := Option.some.inj h
          exact QP.returned [4] [.bool s40] _ (by kernel_rfl) (by kernel_rfl) (by kernel_rfl) (fun W hI => ⟨_, _, _, rfl, ⟨rfl, rfl, rfl⟩, hI⟩)
      · replace hc := ne_of_beq_false hc
        rw [if_neg hc] at h
        have hc39 := hc
        clear hc
        refine WP.skip ?_
        refine QP.blockN ?_
        refine QP.next ?_
        refine WP.pick [] ?_
        refine WP.seqP [4] (L' := [(4, .bool false)]) (by kernel_rfl) ?_
        refine WP.dropAt 0 ?_
        refine WP.ret ?_
        obtain rfl := Option.some.inj h
        exact QP.returned [4] [.bool false] _ (by kernel_rfl) (by kernel_rfl) (by kernel_rfl) (fun W hI => ⟨_, _, _, rfl, ⟨rfl, rfl, rfl⟩, hI⟩)

/-! ### grapevine/grapevineref8.entry: function 40 -/
def grapevineref8_entry (k : Nat) (a0 : Int) (l1 : List Int) (a2 : Int) : Option (T41 × Bool) := (if a0 = 1 then ((grapevineref8_take k l1 0 a2).bind fun t4 => (if t4.2.2 = true then ((grapevineref8_take k l1 t4.2.1 a2).bind fun t9 => ((if t9.2.2 = true then (if t9.2.1 = (l1.length : Int) then ((grapevineref8_May k (⟨a0, t4.1, t9.1, 0, 0, 0, 0, (⟨#[]⟩ : ByteArray)⟩ : T41) a2).bind fun t17 => some (t17, (⟨a0, t4.1, t9.1, 0, 0, 0, 0, (⟨#[]⟩ : ByteArray)⟩ : T41))) else some (false, (⟨a0, t4.1, t9.1, 0, 0, 0, 0, (⟨#[]⟩ : ByteArray)⟩ : T41))) else some (false, (⟨a0, t4.1, t9.1, 0, 0, 0, 0, (⟨#[]⟩ : ByteArray)⟩ : T41))).bind fun s13 => some (s13.2, s13.1))) else ((if t4.2.2 = true then (if t4.2.1 = (l1.length : Int) then ((grapevineref8_May k (⟨a0, t4.1, ([] : List Int), 0, 0, 0, 0, (⟨#[]⟩ : ByteArray)⟩ : T41) a2).bind fun t27 => some (t27, (⟨a0, t4.1, ([] : List Int), 0, 0, 0, 0, (⟨#[]⟩ : ByteArray)⟩ : T41))) else some (false, (⟨a0, t4.1, ([] : List Int), 0, 0, 0, 0, (⟨#[]⟩ : ByteArray)⟩ : T41))) else some (false, (⟨a0, t4.1, ([] : List Int), 0, 0, 0, 0, (⟨#[]⟩ : ByteArray)⟩ : T41))).bind fun s23 => some (s23.2, s23.1)))) else (if a0 = 2 then ((grapevineref4_Read k l1 0).bind fun t33 => ((if t33.2.2 = true then (if t33.2.1 = (l1.length : Int) then ((grapevineref8_May k (⟨a0, ([] : List Int), ([] : List Int), t33.1.f0, t33.1.f1, t33.1.f2, t33.1.f3, t33.1.f4⟩ : T41) a2).bind fun t41 => some (t41, (⟨a0, ([] : List Int), ([] : List Int), t33.1.f0, t33.1.f1, t33.1.f2, t33.1.f3, t33.1.f4⟩ : T41))) else some (false, (⟨a0, ([] : List Int), ([] : List Int), t33.1.f0, t33.1.f1, t33.1.f2, t33.1.f3, t33.1.f4⟩ : T41))) else some (false, (⟨a0, ([] : List Int), ([] : List Int), t33.1.f0, t33.1.f1, t33.1.f2, t33.1.f3, t33.1.f4⟩ : T41))).bind fun s37 => some (s37.2, s37.1))) else (if a0 = 3 then ((grapevineref8_take k l1 0 a2).bind fun t46 => ((if t46.2.2 = true then (if t46.2.1 = (l1.length : Int) then ((grapevineref8_May k (⟨a0, ([] : List Int), t46.1, 0, 0, 0, 0, (⟨#[]⟩ : ByteArray)⟩ : T41) a2).bind fun t54 => some (t54, (⟨a0, ([] : List Int), t46.1, 0, 0, 0, 0, (⟨#[]⟩ : ByteArray)⟩ : T41))) else some (false, (⟨a0, ([] : List Int), t46.1, 0, 0, 0, 0, (⟨#[]⟩ : ByteArray)⟩ : T41))) else some (false, (⟨a0, ([] : List Int), t46.1, 0, 0, 0, 0, (⟨#[]⟩ : ByteArray)⟩ : T41))).bind fun s50 => some (s50.2, s50.1))) else some ((⟨a0, ([] : List Int), ([] : List Int), 0, 0, 0, 0, (⟨#[]⟩ : ByteArray)⟩ : T41), false))))
set_option maxHeartbeats 4000000 in
theorem grapevineref8_entry_calls {B : World} {G : GMap} {Γ : List Chunk} {W : World} (HT : Tabs B G) (k : Nat) (a0 : Int) (l1 : List Int) (a2 : Int) (Al1 : Option Addr) (cl1 : Nat) (Hl1 : Rd (kInt .u8) G Al1 cl1 l1) (r : T41 × Bool) (h : grapevineref8_entry k a0 l1 a2 = some r) (hI : Inv B G (Γ) W) :
    Calls Tryd.prog 40 [.int .i64 a0, .slice Al1 l1.length cl1, .int .i64 a2].toArray W (Ret B (fun v G' Γ' => ∃ (AR0_0 : Option Addr), ∃ (cR0_0 : Nat), ∃ (CR0_0 : Chunk), ∃ (AR0_1 : Option Addr), ∃ (cR0_1 : Nat), ∃ (CR0_1 : Chunk), v = .tuple #[.agg #[.int .i64 r.1.f0, .slice AR0_0 r.1.f1.length cR0_0, .slice AR0_1 r.1.f2.length cR0_1, .int .i64 r.1.f3, .int .i64 r.1.f4, .int .i64 r.1.f5, .int .i64 r.1.f6, .string r.1.f7], .bool r.2] ∧ Ow (kInt .i64) G' AR0_0 cR0_0 r.1.f1 CR0_0 ∧ Ow (kInt .i64) G' AR0_1 cR0_1 r.1.f2 CR0_1 ∧ G = G' ∧ CR0_0 :: CR0_1 :: Γ = Γ')) := by
  refine calls_WP (Γ := Γ) (G := G) (B := B) Tryd.func40 rfl (by kernel_rfl) ?_ hI
  clear hI
  unfold grapevineref8_entry at h
  refine WP.seqR ?_
  refine WL.op (op := .alloc 41) (ty := 0) (d := some 6) (g := none) (by kernel_rfl) (by kernel_rfl) (by kernel_rfl) (Does.new (o := .cells #[.int .i64 0, .slice none 0 0, .slice none 0 0, .int .i64 0, .int .i64 0, .int .i64 0, .int .i64 0, .string (⟨#[]⟩ : ByteArray)] 41 (0, 0)) (v := fun r => .pointer (some ⟨r, 0, none⟩)) (fun r => by kernel_rfl)) ?_
  rintro _ _ _ ⟨b1, rfl, rfl, rfl⟩
  refine WL.restQ 1 [0, 1, 2, 6] (L' := [(0, .int .i64 a0), (1, .slice Al1 l1.length cl1), (2, .int .i64 a2), (6, .pointer (some ⟨b1, 0, none⟩))]) (by kernel_rfl) ?_
  refine WP.seqR ?_
  refine WL.pure 0 2 [0, 1, 2, 6, 12] (L' := [(0, .int .i64 a0), (1, .slice Al1 l1.length cl1), (2, .int .i64 a2), (6, .pointer (some ⟨b1, 0, none⟩)), (12, .agg #[.int .i64 a0, .slice none 0 0, .slice none 0 0, .int .i64 0, .int .i64 0, .int .i64 0, .int .i64 0, .string (⟨#[]⟩ : ByteArray)])]) (by kernel_rfl) (by decide) ?_
  refine WL.op (op := .alloc 41) (ty := 0) (d := some 8) (g := none) (by kernel_rfl) (by kernel_rfl) (by kernel_rfl) (Does.new (o := .cells #[.int .i64 0, .slice none 0 0, .slice none 0 0, .int .i64 0, .int .i64 0, .int .i64 0, .int .i64 0, .string (⟨#[]⟩ : ByteArray)] 41 (0, 0)) (v := fun r => .pointer (some ⟨r, 0, none⟩)) (fun r => by kernel_rfl)) ?_
  rintro _ _ _ ⟨b2, rfl, rfl, rfl⟩
  refine WL.op (op := .store 41 (.tmp 8) (.tmp 12)) (ty := 0) (d := none) (g := none) (by kernel_rfl) (by kernel_rfl) (by kernel_rfl) (Does.store_box (i := 0) (b := b2) (o := 0) (v := .agg #[.int .i64 a0, .slice none 0 0, .slice none 0 0, .int .i64 0, .int .i64 0, .int .i64 0, .int .i64 0, .string (⟨#[]⟩ : ByteArray)]) (by rfl) sz41 (by kernel_rfl) (by kernel_rfl) (by kernel_rfl) (Free.zero _) (Nat.le_of_ble_eq_true rfl) (cells' := #[.int .i64 a0, .slice none 0 0, .slice none 0 0, .int .i64 0, .int .i64 0, .int .i64 0, .int .i64 0, .string (⟨#[]⟩ : ByteArray)]) (by kernel_rfl)) ?_
  rintro _ _ _ ⟨rfl, rfl, rfl⟩
  refine WL.restQ 4 [0, 1, 2, 6, 8] (L' := [(0, .int .i64 a0), (1, .slice Al1 l1.length cl1), (2, .int .i64 a2), (6, .pointer (some ⟨b1, 0, none⟩)), (8, .pointer (some ⟨b2, 0, none⟩))]) (by kernel_rfl) ?_
  refine WP.seqP [0, 1, 2, 6, 8, 9, 10] (L' := [(0, .int .i64 a0), (1, .slice Al1 l1.length cl1), (2, .int .i64 a2), (6, .pointer (some ⟨b1, 0, none⟩)), (8, .pointer (some ⟨b2, 0, none⟩)), (9, .int .i64 0), (10, .bool false)]) (by kernel_rfl) ?_
  refine WP.seq ?_
  refine WP.seqP [1, 2, 6, 8, 9, 10, 13] (L' := [(1, .slice Al1 l1.length cl1), (2, .int .i64 a2), (6, .pointer (some ⟨b1, 0, none⟩)), (8, .pointer (some ⟨b2, 0, none⟩)), (9, .int .i64 0), (10, .bool false), (13, .int .i64 a0)]) (by kernel_rfl) ?_
  refine WP.block ?_
  refine WP.seqP [1, 2, 6, 8, 9, 10, 13, 14] (L' := [(1, .slice Al1 l1.length cl1), (2, .int .i64 a2), (6, .pointer (some ⟨b1, 0, none⟩)), (8, .pointer (some ⟨b2, 0, none⟩)), (9, .int .i64 0), (10, .bool false), (13, .int .i64 a0), (14, .bool (a0 == 1))]) (by kernel_rfl) ?_
  refine WP.cond (b := (a0 == 1)) (by kernel_rfl) (fun hc => ?_) (fun hc => ?_)
  · replace hc := eq_of_beq hc
    rw [if_pos hc] at h
    have hc3 := hc
    clear hc
    refine WP.seqR ?_
    refine WL.pure 0 2 [1, 2, 6, 8, 9, 10, 17, 18] (L' := [(1, .slice Al1 l1.length cl1), (2, .int .i64 a2), (6, .pointer (some ⟨b1, 0, none⟩)), (8, .pointer (some ⟨b2, 0, none⟩)), (9, .int .i64 0), (10, .bool false), (17, .slice Al1 l1.length cl1), (18, .int .i64 a2)]) (by kernel_rfl) (by decide) ?_
    rw [Option.bind_eq_some_iff] at h
    obtain ⟨t4, ht5, h⟩ := h
    refine WL.op (op := .call { callee := (.value (.func 77)), args := #[(.tmp 17), (.const (.int .i64 0)), (.tmp 18)], argTypes := #[22, 3, 3] }) (ty := 112) (d := some 19) (g := none) (by kernel_rfl) (by kernel_rfl) (by kernel_rfl) (Does.call (f := 77) (args := [.slice Al1 l1.length cl1, .int .i64 0, .int .i64 a2]) (by kernel_rfl) (fun W hI => (grapevineref8_take_calls k l1 0 a2 Al1 cl1 Hl1 t4 ht5 hI))) ?_
    rintro _ _ _ ⟨AR60, cR60, CR60, rfl, HR60, rfl, rfl⟩
    refine WL.pure 3 8 [1, 2, 6, 8, 9, 10, 20, 21, 22, 23] (L' := [(1, .slice Al1 l1.length cl1), (2, .int .i64 a2), (6, .pointer (some ⟨b1, 0, none⟩)), (8, .pointer (some ⟨b2, 0, none⟩)), (9, .int .i64 0), (10, .bool false), (20, .slice AR60 t4.1.length cR60), (21, .int .i64 t4.2.1), (22, .bool t4.2.2), (23, .pointer (some ⟨b2, 1, none⟩))]) (by kernel_rfl) (by decide) ?_
    refine WL.op (op := .store 32 (.tmp 23) (.tmp 20)) (ty := 0) (d := none) (g := none) (by kernel_rfl) (by kernel_rfl) (by kernel_rfl) (Does.store_box (i := 1) (b := b2) (o := 1) (v := .slice AR60 t4.1.length cR60) (by rfl) sz32 (by kernel_rfl) (by kernel_rfl) (by kernel_rfl) (Free.zero _) (Nat.le_of_ble_eq_true rfl) (cells' := #[.int .i64 a0, .slice AR60 t4.1.length cR60, .slice none 0 0, .int .i64 0, .int .i64 0, .int .i64 0, .int .i64 0, .string (⟨#[]⟩ : ByteArray)]) (by kernel_rfl)) ?_
    rintro _ _ _ ⟨rfl, rfl, rfl⟩
    refine WL.restQ 9 [1, 2, 6, 8, 9, 10] (L' := [(1, .slice Al1 l1.length cl1), (2, .int .i64 a2), (6, .pointer (some ⟨b1, 0, none⟩)), (8, .pointer (some ⟨b2, 0, none⟩)), (9, .int .i64 t4.2.1), (10, .bool t4.2.2)]) (by kernel_rfl) ?_
    refine WP.seqP [1, 2, 6, 8, 9, 10, 24] (L' := [(1, .slice Al1 l1.length cl1), (2, .int .i64 a2), (6, .pointer (some ⟨b1, 0, none⟩)), (8, .pointer (some ⟨b2, 0, none⟩)), (9, .int .i64 t4.2.1), (10, .bool t4.2.2), (24, .bool t4.2.2)]) (by kernel_rfl) ?_
    refine WP.cond (b := t4.2.2) (by kernel_rfl) (fun hc => ?_) (fun hc => ?_)
    · replace hc := hc
      rw [if_pos hc] at h
      have hc8 := hc
      clear hc
      refine WP.region ?_
      refine WL.pure 0 3 [1, 2, 6, 8, 9, 10, 26, 27, 28] (L' := [(1, .slice Al1 l1.length cl1), (2, .int .i64 a2), (6, .pointer (some ⟨b1, 0, none⟩)), (8, .pointer (some ⟨b2, 0, none⟩)), (9, .int .i64 t4.2.1), (10, .bool t4.2.2), (26, .slice Al1 l1.length cl1), (27, .int .i64 t4.2.1), (28, .int .i64 a2)]) (by kernel_rfl) (by decide) ?_
      rw [Option.bind_eq_some_iff] at h
      obtain ⟨t9, ht10, h⟩ := h
      refine WL.op (op := .call { callee := (.value (.func 77)), args := #[(.tmp 26), (.tmp 27), (.tmp 28)], argTypes := #[22, 3, 3] }) (ty := 112) (d := some 29) (g := none) (by kernel_rfl) (by kernel_rfl) (by kernel_rfl) (Does.call (f := 77) (args := [.slice Al1 l1.length cl1, .int .i64 t4.2.1, .int .i64 a2]) (by kernel_rfl) (fun W hI => (grapevineref8_take_calls k l1 t4.2.1 a2 Al1 cl1 Hl1 t9 ht10 hI))) ?_
      rintro _ _ _ ⟨AR110, cR110, CR110, rfl, HR110, rfl, rfl⟩
      refine WL.pure 4 9 [1, 2, 6, 8, 9, 10, 30, 31, 32, 33] (L' := [(1, .slice Al1 l1.length cl1), (2, .int .i64 a2), (6, .pointer (some ⟨b1, 0, none⟩)), (8, .pointer (some ⟨b2, 0, none⟩)), (9, .int .i64 t4.2.1), (10, .bool t4.2.2), (30, .slice AR110 t9.1.length cR110), (31, .int .i64 t9.2.1), (32, .bool t9.2.2), (33, .pointer (some ⟨b2, 2, none⟩))]) (by kernel_rfl) (by decide) ?_
      refine WL.op (op := .store 32 (.tmp 33) (.tmp 30)) (ty := 0) (d := none) (g := none) (by kernel_rfl) (by kernel_rfl) (by kernel_rfl) (Does.store_box (i := 2) (b := b2) (o := 2) (v := .slice AR110 t9.1.length cR110) (by rfl) sz32 (by kernel_rfl) (by kernel_rfl) (by kernel_rfl) (Free.zero _) (Nat.le_of_ble_eq_true rfl) (cells' := #[.int .i64 a0, .slice AR60 t4.1.length cR60, .slice AR110 t9.1.length cR110, .int .i64 0, .int .i64 0, .int .i64 0, .int .i64 0, .string (⟨#[]⟩ : ByteArray)]) (by kernel_rfl)) ?_
      rintro _ _ _ ⟨rfl, rfl, rfl⟩
      refine WL.rest 10 [1, 2, 6, 8, 9, 10] (L' := [(1, .slice Al1 l1.length cl1), (2, .int .i64 a2), (6, .pointer (some ⟨b1, 0, none⟩)), (8, .pointer (some ⟨b2, 0, none⟩)), (9, .int .i64 t9.2.1), (10, .bool t9.2.2)]) (by kernel_rfl) ?_
      refine QP.blockN ?_
      refine QP.next ?_
      refine WP.pick [1, 2, 6, 8, 9, 10] ?_
      rw [Option.bind_eq_some_iff] at h
      obtain ⟨os13, h, hk14⟩ := h
      refine WP.cut (fun L' G' Γ' => ∃ s13 : Bool × T41, s13 = os13 ∧ ∃ (As13_2_f1 : Option Addr), ∃ (cs13_2_f1 : Nat), ∃ (Cs13_2_f1 : Chunk), ∃ (As13_2_f2 : Option Addr), ∃ (cs13_2_f2 : Nat), ∃ (Cs13_2_f2 : Chunk), L' = [(6, .pointer (some ⟨b1, 0, none⟩)), (7, .bool s13.1)] ∧ G = G' ∧ [(b1, .cells #[.int .i64 s13.2.f0, .slice As13_2_f1 s13.2.f1.length cs13_2_f1, .slice As13_2_f2 s13.2.f2.length cs13_2_f2, .int .i64 s13.2.f3, .int .i64 s13.2.f4, .int .i64 s13.2.f5, .int .i64 s13.2.f6, .string s13.2.f7] 41 (0, 0))] :: Cs13_2_f1 :: Cs13_2_f2 :: Γ = Γ' ∧ Ow (kInt .i64) G As13_2_f1 cs13_2_f1 s13.2.f1 Cs13_2_f1 ∧ Ow (kInt .i64) G As13_2_f2 cs13_2_f2 s13.2.f2 Cs13_2_f2) ?_ ?_
      · clear hk14
        skip
        refine WP.any (N := 15) (S := [⟨some 53, [8], []⟩, ⟨some 54, [10], []⟩, ⟨some 55, [54], [1]⟩, ⟨some 56, [9, 55], [2]⟩, ⟨some 57, [1, 55], [2]⟩, ⟨some 58, [55, 57], [2, 4]⟩, ⟨some 59, [55, 56, 58], [2, 3, 5]⟩, ⟨some 60, [55, 59], [2, 6]⟩, ⟨some 61, [60], [2, 7]⟩, ⟨some 62, [8, 61], [8]⟩, ⟨some 63, [2, 61], [8]⟩, ⟨some 64, [61, 62, 63], [8, 9, 10]⟩, ⟨some 65, [61, 64], [8, 11]⟩, ⟨none, [6, 53], [0, 11]⟩, ⟨some 7, [65], [0, 1, 2, 3, 4, 5, 6, 7, 8, 9, 10, 11, 12, 13]⟩]) (kw := 13) (G0 := G) (Γ0 := CR110 :: CR60 :: [(b2, .cells #[.int .i64 a0, .slice AR60 t4.1.length cR60, .slice AR110 t9.1.length cR110, .int .i64 0, .int .i64 0, .int .i64 0, .int .i64 0, .string (⟨#[]⟩ : ByteArray)] 41 (0, 0))] :: [(b1, .cells #[.int .i64 0, .slice none 0 0, .slice none 0 0, .int .i64 0, .int .i64 0, .int .i64 0, .int .i64 0, .string (⟨#[]⟩ : ByteArray)] 41 (0, 0))] :: Γ) mo (by kernel_rfl) (fun hS => ?_)
        refine WA.pure [1, 2] [1, 2, 6, 8, 9, 55] (m := 13) (b' := 6) (L' := [(1, .slice Al1 l1.length cl1), (2, .int .i64 a2), (6, .pointer (some ⟨b1, 0, none⟩)), (8, .pointer (some ⟨b2, 0, none⟩)), (9, .int .i64 t9.2.1), (55, .bool t9.2.2)]) (by kernel_rfl) (NoPanic.then (NoPanic.body)) Under.refl hS (by kernel_rfl) ?_
        refine WA.split 55 (b := t9.2.2) (by kernel_rfl) (fun hc => ?_) (fun hc => ?_)
        · replace hc := hc
          rw [if_pos hc] at h
          have hc15 := hc
          clear hc
          refine WA.pure [3, 4, 5, 6, 7, 8] [2, 6, 8, 61] (m := 7) (b' := 510) (L' := [(2, .int .i64 a2), (6, .pointer (some ⟨b1, 0, none⟩)), (8, .pointer (some ⟨b2, 0, none⟩)), (61, .bool (t9.2.1 == (l1.length : Int)))]) (by kernel_rfl) (NoPanic.then (NoPanic.body)) Under.refl hS (by kernel_rfl) ?_
          refine WA.split 61 (b := (t9.2.1 == (l1.length : Int))) (by kernel_rfl) (fun hc => ?_) (fun hc => ?_)
          · replace hc := eq_of_beq hc
            rw [if_pos hc] at h
            have hc16 := hc
            clear hc
            refine WA.pure [10] [6, 8, 61, 63] (m := 6) (b' := 1534) (L' := [(6, .pointer (some ⟨b1, 0, none⟩)), (8, .pointer (some ⟨b2, 0, none⟩)), (61, .bool true), (63, .int .i64 a2)]) (by kernel_rfl) (NoPanic.then (NoPanic.body)) Under.refl hS (by kernel_rfl) ?_
            refine WA.tellD [13] (i := 0) (m := 5) (b' := 1535) (by kernel_rfl) (NoPanic.then (NoPanic.body)) Under.refl hS (by kernel_rfl) (op := .load 41 (.tmp 8)) (ty := 41) (d := some 53) (g := none) (by kernel_rfl) (by kernel_rfl) (by kernel_rfl) (Tells.load_box (i := 2) (b := b2) (o := 0) (agg := true) (by rfl) ag41 (by kernel_rfl) (fun h => by cases h) (Nat.le_of_ble_eq_true rfl) (v := .agg #[.int .i64 a0, .slice AR60 t4.1.length cR60, .slice AR110 t9.1.length cR110, .int .i64 0, .int .i64 0, .int .i64 0, .int .i64 0, .string (⟨#[]⟩ : ByteArray)]) (by kernel_rfl)) ?_
            refine WA.tellD [13, 11] (i := 9) (m := 4) (b' := 2047) (by kernel_rfl) (NoPanic.then (NoPanic.body)) Under.refl hS (by kernel_rfl) (op := .load 41 (.tmp 8)) (ty := 41) (d := some 62) (g := some (8, true)) (by kernel_rfl) (by kernel_rfl) (by kernel_rfl) (Tells.load_box (i := 2) (b := b2) (o := 0) (agg := true) (by rfl) ag41 (by kernel_rfl) (fun h => by cases h) (Nat.le_of_ble_eq_true rfl) (v := .agg #[.int .i64 a0, .slice AR60 t4.1.length cR60, .slice AR110 t9.1.length cR110, .int .i64 0, .int .i64 0, .int .i64 0, .int .i64 0, .string (⟨#[]⟩ : ByteArray)]) (by kernel_rfl)) ?_
            rw [Option.bind_eq_some_iff] at h
            obtain ⟨t17, ht18, h⟩ := h
            refine WA.op (i := 11) (m := 3) (b' := 4095) (by kernel_rfl) hS (by kernel_rfl) (op := .call { callee := (.value (.func 78)), args := #[(.tmp 62), (.tmp 63)], argTypes := #[41, 3] }) (ty := 4) (d := some 64) (g := some (8, true)) (by kernel_rfl) (by kernel_rfl) (by kernel_rfl) (Does.call (Φ := fun v' G' Γ' => v' = .bool t17 ∧ G = G' ∧ CR110 :: CR60 :: [(b2, .cells #[.int .i64 a0, .slice AR60 t4.1.length cR60, .slice AR110 t9.1.length cR110, .int .i64 0, .int .i64 0, .int .i64 0, .int .i64 0, .string (⟨#[]⟩ : ByteArray)] 41 (0, 0))] :: [(b1, .cells #[.int .i64 0, .slice none 0 0, .slice none 0 0, .int .i64 0, .int .i64 0, .int .i64 0, .int .i64 0, .string (⟨#[]⟩ : ByteArray)] 41 (0, 0))] :: Γ = Γ') (f := 78) (args := [.agg #[.int .i64 a0, .slice AR60 t4.1.length cR60, .slice AR110 t9.1.length cR110, .int .i64 0, .int .i64 0, .int .i64 0, .int .i64 0, .string (⟨#[]⟩ : ByteArray)], .int .i64 a2]) (by kernel_rfl) (fun W hI => (Calls.lendN (Φ := fun v' N => v' = .bool t17 ∧ N = []) (H := []) (i := 1) rfl hI (fun _ e l21 nl21 hI => by subst e; exact Calls.lendN (Φ := fun v' N => v' = .bool t17 ∧ N = []) (H := []) (i := 0) rfl hI (fun _ e l22 nl22 hI => by subst e; exact (((grapevineref8_May_calls ((HT.mono l21).mono l22) k (⟨a0, t4.1, t9.1, 0, 0, 0, 0, (⟨#[]⟩ : ByteArray)⟩ : T41) a2 AR60 cR60 ((HR60.rdN l21 nl21).mono l22) AR110 cR110 ((HR110.mono l21).rdN l22 nl22) t17 ht18 hI)).mono fun _ _ hr => by obtain ⟨_, _, _, rfl, hd, hI⟩ := hr; obtain ⟨rfl, rfl, rfl⟩ := hd; exact ⟨_, _, _, rfl, ⟨[], ⟨rfl, rfl⟩, rfl, rfl⟩, hI⟩)))).mono fun _ _ hr => by obtain ⟨_, _, _, rfl, ⟨_, hd, rfl, rfl⟩, hI⟩ := hr; obtain ⟨rfl, rfl⟩ := hd; exact ⟨_, _, _, rfl, ⟨rfl, rfl, rfl⟩, hI⟩)) ?_
            rintro _ _ _ ⟨rfl, rfl, rfl⟩
            refine ⟨_, _, Under.refl, Under.refl, ?_⟩
            refine WA.pure [12] [6, 53, 65] (m := 2) (b' := 8191) (L' := [(6, .pointer (some ⟨b1, 0, none⟩)), (53, .agg #[.int .i64 a0, .slice AR60 t4.1.length cR60, .slice AR110 t9.1.length cR110, .int .i64 0, .int .i64 0, .int .i64 0, .int .i64 0, .string (⟨#[]⟩ : ByteArray)]), (65, .bool t17)]) (by kernel_rfl) (NoPanic.then (NoPanic.body)) Under.refl hS (by kernel_rfl) ?_
            refine WA.opK (i := 13) (kw' := 15) (m := 1) (b' := 16383) (by kernel_rfl) rfl hS (by kernel_rfl) (op := .store 41 (.tmp 6) (.tmp 53)) (ty := 0) (d := none) (g := none) (by kernel_rfl) (by kernel_rfl) (by kernel_rfl) (Does.store_box (i := 3) (b := b1) (o := 0) (v := .agg #[.int .i64 a0, .slice AR60 t4.1.length cR60, .slice AR110 t9.1.length cR110, .int .i64 0, .int .i64 0, .int .i64 0, .int .i64 0, .string (⟨#[]⟩ : ByteArray)]) (by rfl) sz41 (by kernel_rfl) (by kernel_rfl) (by kernel_rfl) (Free.zero _) (Nat.le_of_ble_eq_true rfl) (cells' := #[.int .i64 a0, .slice AR60 t4.1.length cR60, .slice AR110 t9.1.length cR110, .int .i64 0, .int .i64 0, .int .i64 0, .int .i64 0, .string (⟨#[]⟩ : ByteArray)]) (by kernel_rfl)) ?_
            rintro _ _ _ ⟨rfl, rfl, rfl⟩
            refine ⟨_, _, Under.refl, ?_⟩
            refine WA.pure [14] [6, 7] (m := 0) (b' := 32767) (L' := [(6, .pointer (some ⟨b1, 0, none⟩)), (7, .bool t17)]) (by kernel_rfl) (NoPanic.then (NoPanic.body)) Under.refl hS (by kernel_rfl) ?_
            refine WA.done hS (by kernel_rfl) ?_
            refine QP.pick [6, 7] ?_
            refine QP.dropAt 2 ?_
            refine QP.front (i := 1) rfl ?_
            refine QP.front (i := 2) rfl ?_
            refine QP.pick [6, 7] ?_
            exact QP.meet ⟨_, Option.some.inj h, AR60, cR60, CR60, AR110, cR110, CR110, rfl, rfl, rfl, HR60, HR110⟩
          · replace hc := ne_of_beq_false hc
            rw [if_neg hc] at h
            have hc16 := hc
            clear hc
            refine WA.pure [9, 10, 11, 12] [6, 8, 65] (m := 3) (b' := 8190) (L' := [(6, .pointer (some ⟨b1, 0, none⟩)), (8, .pointer (some ⟨b2, 0, none⟩)), (65, .bool false)]) (by kernel_rfl) (NoPanic.then (NoPanic.body)) Under.refl hS (by kernel_rfl) ?_
            refine WA.tellD [13] (i := 0) (m := 2) (b' := 8191) (by kernel_rfl) (NoPanic.then (NoPanic.body)) Under.refl hS (by kernel_rfl) (op := .load 41 (.tmp 8)) (ty := 41) (d := some 53) (g := none) (by kernel_rfl) (by kernel_rfl) (by kernel_rfl) (Tells.load_box (i := 2) (b := b2) (o := 0) (agg := true) (by rfl) ag41 (by kernel_rfl) (fun h => by cases h) (Nat.le_of_ble_eq_true rfl) (v := .agg #[.int .i64 a0, .slice AR60 t4.1.length cR60, .slice AR110 t9.1.length cR110, .int .i64 0, .int .i64 0, .int .i64 0, .int .i64 0, .string (⟨#[]⟩ : ByteArray)]) (by kernel_rfl)) ?_
            refine WA.opK (i := 13) (kw' := 15) (m := 1) (b' := 16383) (by kernel_rfl) rfl hS (by kernel_rfl) (op := .store 41 (.tmp 6) (.tmp 53)) (ty := 0) (d := none) (g := none) (by kernel_rfl) (by kernel_rfl) (by kernel_rfl) (Does.store_box (i := 3) (b := b1) (o := 0) (v := .agg #[.int .i64 a0, .slice AR60 t4.1.length cR60, .slice AR110 t9.1.length cR110, .int .i64 0, .int .i64 0, .int .i64 0, .int .i64 0, .string (⟨#[]⟩ : ByteArray)]) (by rfl) sz41 (by kernel_rfl) (by kernel_rfl) (by kernel_rfl) (Free.zero _) (Nat.le_of_ble_eq_true rfl) (cells' := #[.int .i64 a0, .slice AR60 t4.1.length cR60, .slice AR110 t9.1.length cR110, .int .i64 0, .int .i64 0, .int .i64 0, .int .i64 0, .string (⟨#[]⟩ : ByteArray)]) (by kernel_rfl)) ?_
            rintro _ _ _ ⟨rfl, rfl, rfl⟩
            refine ⟨_, _, Under.refl, ?_⟩
            refine WA.pure [14] [6, 7] (m := 0) (b' := 32767) (L' := [(6, .pointer (some ⟨b1, 0, none⟩)), (7, .bool false)]) (by kernel_rfl) (NoPanic.then (NoPanic.body)) Under.refl hS (by kernel_rfl) ?_
            refine WA.done hS (by kernel_rfl) ?_
            refine QP.pick [6, 7] ?_
            refine QP.dropAt 2 ?_
            refine QP.front (i := 1) rfl ?_
            refine QP.front (i := 2) rfl ?_
            refine QP.pick [6, 7] ?_
            exact QP.meet ⟨_, Option.some.inj h, AR60, cR60, CR60, AR110, cR110, CR110, rfl, rfl, rfl, HR60, HR110⟩
        · replace hc := (Bool.eq_false_iff.1 hc)
          rw [if_neg hc] at h
          have hc15 := hc
          clear hc
          refine WA.pure [3, 4, 5, 6, 7, 8, 9, 10, 11, 12] [6, 8, 65] (m := 3) (b' := 8190) (L' := [(6, .pointer (some ⟨b1, 0, none⟩)), (8, .pointer (some ⟨b2, 0, none⟩)), (65, .bool false)]) (by kernel_rfl) (NoPanic.then (NoPanic.body)) Under.refl hS (by kernel_rfl) ?_
          refine WA.tellD [13] (i := 0) (m := 2) (b' := 8191) (by kernel_rfl) (NoPanic.then (NoPanic.body)) Under.refl hS (by kernel_rfl) (op := .load 41 (.tmp 8)) (ty := 41) (d := some 53) (g := none) (by kernel_rfl) (by kernel_rfl) (by kernel_rfl) (Tells.load_box (i := 2) (b := b2) (o := 0) (agg := true) (by rfl) ag41 (by kernel_rfl) (fun h => by cases h) (Nat.le_of_ble_eq_true rfl) (v := .agg #[.int .i64 a0, .slice AR60 t4.1.length cR60, .slice AR110 t9.1.length cR110, .int .i64 0, .int .i64 0, .int .i64 0, .int .i64 0, .string (⟨#[]⟩ : ByteArray)]) (by kernel_rfl)) ?_
          refine WA.opK (i := 13) (kw' := 15) (m := 1) (b' := 16383) (by kernel_rfl) rfl hS (by kernel_rfl) (op := .store 41 (.tmp 6) (.tmp 53)) (ty := 0) (d := none) (g := none) (by kernel_rfl) (by kernel_rfl) (by kernel_rfl) (Does.store_box (i := 3) (b := b1) (o := 0) (v := .agg #[.int .i64 a0, .slice AR60 t4.1.length cR60, .slice AR110 t9.1.length cR110, .int .i64 0, .int .i64 0, .int .i64 0, .int .i64 0, .string (⟨#[]⟩ : ByteArray)]) (by rfl) sz41 (by kernel_rfl) (by kernel_rfl) (by kernel_rfl) (Free.zero _) (Nat.le_of_ble_eq_true rfl) (cells' := #[.int .i64 a0, .slice AR60 t4.1.length cR60, .slice AR110 t9.1.length cR110, .int .i64 0, .int .i64 0, .int .i64 0, .int .i64 0, .string (⟨#[]⟩ : ByteArray)]) (by kernel_rfl)) ?_
          rintro _ _ _ ⟨rfl, rfl, rfl⟩
          refine ⟨_, _, Under.refl, ?_⟩
          refine WA.pure [14] [6, 7] (m := 0) (b' := 32767) (L' := [(6, .pointer (some ⟨b1, 0, none⟩)), (7, .bool false)]) (by kernel_rfl) (NoPanic.then (NoPanic.body)) Under.refl hS (by kernel_rfl) ?_
          refine WA.done hS (by kernel_rfl) ?_
          refine QP.pick [6, 7] ?_
          refine QP.dropAt 2 ?_
          refine QP.front (i := 1) rfl ?_
          refine QP.front (i := 2) rfl ?_
          refine QP.pick [6, 7] ?_
          exact QP.meet ⟨_, Option.some.inj h, AR60, cR60, CR60, AR110, cR110, CR110, rfl, rfl, rfl, HR60, HR110⟩
      · rintro _ _ _ ⟨s13, rfl, As13_2_f1, cs13_2_f1, Cs13_2_f1, As13_2_f2, cs13_2_f2, Cs13_2_f2, rfl, rfl, rfl, Hs13_2_f1, Hs13_2_f2⟩
        clear h
        replace h := hk14
        refine WP.ret ?_
        obtain rfl := Option.some.inj h
        refine QP.front (i := 2) rfl ?_
        refine QP.front (i := 2) rfl ?_
        exact QP.returnedM (rs := [.cell 6 41, .tmp 7]) (by kernel_rfl) (ResAll.cons (Res1.box (p := 6) (i := 2) (o := 0) (agg := true) (by rfl) ag41 (by kernel_rfl) (fun h => by cases h) (Nat.le_of_ble_eq_true rfl) (v := .agg #[.int .i64 s13.2.f0, .slice As13_2_f1 s13.2.f1.length cs13_2_f1, .slice As13_2_f2 s13.2.f2.length cs13_2_f2, .int .i64 s13.2.f3, .int .i64 s13.2.f4, .int .i64 s13.2.f5, .int .i64 s13.2.f6, .string s13.2.f7]) (by kernel_rfl)) (ResAll.cons (Res1.tmp (t := 7) (v := .bool s13.1) (by kernel_rfl)) ResAll.nil)) (by kernel_rfl) (fun W hI => ⟨_, _, _, rfl, ⟨As13_2_f1, cs13_2_f1, Cs13_2_f1, As13_2_f2, cs13_2_f2, Cs13_2_f2, rfl, Hs13_2_f1, Hs13_2_f2, rfl, rfl⟩, (hI.less 2 rfl)⟩)
    · replace hc := (Bool.eq_false_iff.1 hc)
      rw [if_neg hc] at h
      have hc8 := hc
      clear hc
      refine WP.skip ?_
      refine QP.blockN ?_
      refine QP.next ?_
      refine WP.pick [1, 2, 6, 8, 9, 10] ?_
      rw [Option.bind_eq_some_iff] at h
      obtain ⟨os23, h, hk24⟩ := h
      refine WP.cut (fun L' G' Γ' => ∃ s23 : Bool × T41, s23 = os23 ∧ ∃ (As23_2_f1 : Option Addr), ∃ (cs23_2_f1 : Nat), ∃ (Cs23_2_f1 : Chunk), ∃ (As23_2_f2 : Option Addr), ∃ (cs23_2_f2 : Nat), ∃ (Cs23_2_f2 : Chunk), L' = [(6, .pointer (some ⟨b1, 0, none⟩)), (7, .bool s23.1)] ∧ G = G' ∧ [(b1, .cells #[.int .i64 s23.2.f0, .slice As23_2_f1 s23.2.f1.length cs23_2_f1, .slice As23_2_f2 s23.2.f2.length cs23_2_f2, .int .i64 s23.2.f3, .int .i64 s23.2.f4, .int .i64 s23.2.f5, .int .i64 s23.2.f6, .string s23.2.f7] 41 (0, 0))] :: Cs23_2_f1 :: Cs23_2_f2 :: Γ = Γ' ∧ Ow (kInt .i64) G As23_2_f1 cs23_2_f1 s23.2.f1 Cs23_2_f1 ∧ Ow (kInt .i64) G As23_2_f2 cs23_2_f2 s23.2.f2 Cs23_2_f2) ?_ ?_
      · clear hk24
        skip
        refine WP.any (N := 15) (S := [⟨some 53, [8], []⟩, ⟨some 54, [10], []⟩, ⟨some 55, [54], [1]⟩, ⟨some 56, [9, 55], [2]⟩, ⟨some 57, [1, 55], [2]⟩, ⟨some 58, [55, 57], [2, 4]⟩, ⟨some 59, [55, 56, 58], [2, 3, 5]⟩, ⟨some 60, [55, 59], [2, 6]⟩, ⟨some 61, [60], [2, 7]⟩, ⟨some 62, [8, 61], [8]⟩, ⟨some 63, [2, 61], [8]⟩, ⟨some 64, [61, 62, 63], [8, 9, 10]⟩, ⟨some 65, [61, 64], [8, 11]⟩, ⟨none, [6, 53], [0, 11]⟩, ⟨some 7, [65], [0, 1, 2, 3, 4, 5, 6, 7, 8, 9, 10, 11, 12, 13]⟩]) (kw := 13) (G0 := G) (Γ0 := CR60 :: [(b2, .cells #[.int .i64 a0, .slice AR60 t4.1.length cR60, .slice none 0 0, .int .i64 0, .int .i64 0, .int .i64 0, .int .i64 0, .string (⟨#[]⟩ : ByteArray)] 41 (0, 0))] :: [(b1, .cells #[.int .i64 0, .slice none 0 0, .slice none 0 0, .int .i64 0, .int .i64 0, .int .i64 0, .int .i64 0, .string (⟨#[]⟩ : ByteArray)] 41 (0, 0))] :: Γ) mo (by kernel_rfl) (fun hS => ?_)
        refine WA.pure [1, 2] [1, 2, 6, 8, 9, 55] (m := 13) (b' := 6) (L' := [(1, .slice Al1 l1.length cl1), (2, .int .i64 a2), (6, .pointer (some ⟨b1, 0, none⟩)), (8, .pointer (some ⟨b2, 0, none⟩)), (9, .int .i64 t4.2.1), (55, .bool t4.2.2)]) (by kernel_rfl) (NoPanic.then (NoPanic.body)) Under.refl hS (by kernel_rfl) ?_
        refine WA.split 55 (b := t4.2.2) (by kernel_rfl) (fun hc => ?_) (fun hc => ?_)
        · replace hc := hc
          rw [if_pos hc] at h
          have hc25 := hc
          clear hc
          refine WA.pure [3, 4, 5, 6, 7, 8] [2, 6, 8, 61] (m := 7) (b' := 510) (L' := [(2, .int .i64 a2), (6, .pointer (some ⟨b1, 0, none⟩)), (8, .pointer (some ⟨b2, 0, none⟩)), (61, .bool (t4.2.1 == (l1.length : Int)))]) (by kernel_rfl) (NoPanic.then (NoPanic.body)) Under.refl hS (by kernel_rfl) ?_
          refine WA.split 61 (b := (t4.2.1 == (l1.length : Int))) (by kernel_rfl) (fun hc => ?_) (fun hc => ?_)
          · replace hc := eq_of_beq hc
            rw [if_pos hc] at h
            have hc26 := hc
            clear hc
            refine WA.pure [10] [6, 8, 61, 63] (m := 6) (b' := 1534) (L' := [(6, .pointer (some ⟨b1, 0, none⟩)), (8, .pointer (some ⟨b2, 0, none⟩)), (61, .bool true), (63, .int .i64 a2)]) (by kernel_rfl) (NoPanic.then (NoPanic.body)) Under.refl hS (by kernel_rfl) ?_
            refine WA.tellD [13] (i := 0) (m := 5) (b' := 1535) (by kernel_rfl) (NoPanic.then (NoPanic.body)) Under.refl hS (by kernel_rfl) (op := .load 41 (.tmp 8)) (ty := 41) (d := some 53) (g := none) (by kernel_rfl) (by kernel_rfl) (by kernel_rfl) (Tells.load_box (i := 1) (b := b2) (o := 0) (agg := true) (by rfl) ag41 (by kernel_rfl) (fun h => by cases h) (Nat.le_of_ble_eq_true rfl) (v := .agg #[.int .i64 a0, .slice AR60 t4.1.length cR60, .slice none 0 0, .int .i64 0, .int .i64 0, .int .i64 0, .int .i64 0, .string (⟨#[]⟩ : ByteArray)]) (by kernel_rfl)) ?_
            refine WA.tellD [13, 11] (i := 9) (m := 4) (b' := 2047) (by kernel_rfl) (NoPanic.then (NoPanic.body)) Under.refl hS (by kernel_rfl) (op := .load 41 (.tmp 8)) (ty := 41) (d := some 62) (g := some (8, true)) (by kernel_rfl) (by kernel_rfl) (by kernel_rfl) (Tells.load_box (i := 1) (b := b2) (o := 0) (agg := true) (by rfl) ag41 (by kernel_rfl) (fun h => by cases h) (Nat.le_of_ble_eq_true rfl) (v := .agg #[.int .i64 a0, .slice AR60 t4.1.length cR60, .slice none 0 0, .int .i64 0, .int .i64 0, .int .i64 0, .int .i64 0, .string (⟨#[]⟩ : ByteArray)]) (by kernel_rfl)) ?_
            rw [Option.bind_eq_some_iff] at h
            obtain ⟨t27, ht28, h⟩ := h
            refine WA.op (i := 11) (m := 3) (b' := 4095) (by kernel_rfl) hS (by kernel_rfl) (op := .call { callee := (.value (.func 78)), args := #[(.tmp 62), (.tmp 63)], argTypes := #[41, 3] }) (ty := 4) (d := some 64) (g := some (8, true)) (by kernel_rfl) (by kernel_rfl) (by kernel_rfl) (Does.call (Φ := fun v' G' Γ' => v' = .bool t27 ∧ G = G' ∧ CR60 :: [(b2, .cells #[.int .i64 a0, .slice AR60 t4.1.length cR60, .slice none 0 0, .int .i64 0, .int .i64 0, .int .i64 0, .int .i64 0, .string (⟨#[]⟩ : ByteArray)] 41 (0, 0))] :: [(b1, .cells #[.int .i64 0, .slice none 0 0, .slice none 0 0, .int .i64 0, .int .i64 0, .int .i64 0, .int .i64 0, .string (⟨#[]⟩ : ByteArray)] 41 (0, 0))] :: Γ = Γ') (f := 78) (args := [.agg #[.int .i64 a0, .slice AR60 t4.1.length cR60, .slice none 0 0, .int .i64 0, .int .i64 0, .int .i64 0, .int .i64 0, .string (⟨#[]⟩ : ByteArray)], .int .i64 a2]) (by kernel_rfl) (fun W hI => (Calls.lendN (Φ := fun v' N => v' = .bool t27 ∧ N = []) (H := []) (i := 0) rfl hI (fun _ e l31 nl31 hI => by subst e; exact (((grapevineref8_May_calls (HT.mono l31) k (⟨a0, t4.1, ([] : List Int), 0, 0, 0, 0, (⟨#[]⟩ : ByteArray)⟩ : T41) a2 AR60 cR60 (HR60.rdN l31 nl31) none 0 (Rd.nil _ _ _ _) t27 ht28 hI)).mono fun _ _ hr => by obtain ⟨_, _, _, rfl, hd, hI⟩ := hr; obtain ⟨rfl, rfl, rfl⟩ := hd; exact ⟨_, _, _, rfl, ⟨[], ⟨rfl, rfl⟩, rfl, rfl⟩, hI⟩))).mono fun _ _ hr => by obtain ⟨_, _, _, rfl, ⟨_, hd, rfl, rfl⟩, hI⟩ := hr; obtain ⟨rfl, rfl⟩ := hd; exact ⟨_, _, _, rfl, ⟨rfl, rfl, rfl⟩, hI⟩)) ?_
            rintro _ _ _ ⟨rfl, rfl, rfl⟩
            refine ⟨_, _, Under.refl, Under.refl, ?_⟩
            refine WA.pure [12] [6, 53, 65] (m := 2) (b' := 8191) (L' := [(6, .pointer (some ⟨b1, 0, none⟩)), (53, .agg #[.int .i64 a0, .slice AR60 t4.1.length cR60, .slice none 0 0, .int .i64 0, .int .i64 0, .int .i64 0, .int .i64 0, .string (⟨#[]⟩ : ByteArray)]), (65, .bool t27)]) (by kernel_rfl) (NoPanic.then (NoPanic.body)) Under.refl hS (by kernel_rfl) ?_
            refine WA.opK (i := 13) (kw' := 15) (m := 1) (b' := 16383) (by kernel_rfl) rfl hS (by kernel_rfl) (op := .store 41 (.tmp 6) (.tmp 53)) (ty := 0) (d := none) (g := none) (by kernel_rfl) (by kernel_rfl) (by kernel_rfl) (Does.store_box (i := 2) (b := b1) (o := 0) (v := .agg #[.int .i64 a0, .slice AR60 t4.1.length cR60, .slice none 0 0, .int .i64 0, .int .i64 0, .int .i64 0, .int .i64 0, .string (⟨#[]⟩ : ByteArray)]) (by rfl) sz41 (by kernel_rfl) (by kernel_rfl) (by kernel_rfl) (Free.zero _) (Nat.le_of_ble_eq_true rfl) (cells' := #[.int .i64 a0, .slice AR60 t4.1.length cR60, .slice none 0 0, .int .i64 0, .int .i64 0, .int .i64 0, .int .i64 0, .string (⟨#[]⟩ : ByteArray)]) (by kernel_rfl)) ?_
            rintro _ _ _ ⟨rfl, rfl, rfl⟩
            refine ⟨_, _, Under.refl, ?_⟩
            refine WA.pure [14] [6, 7] (m := 0) (b' := 32767) (L' := [(6, .pointer (some ⟨b1, 0, none⟩)), (7, .bool t27)]) (by kernel_rfl) (NoPanic.then (NoPanic.body)) Under.refl hS (by kernel_rfl) ?_
            refine WA.done hS (by kernel_rfl) ?_
            refine QP.pick [6, 7] ?_
            refine QP.addNil ?_
            refine QP.dropAt 2 ?_
            refine QP.front (i := 1) rfl ?_
            refine QP.front (i := 2) rfl ?_
            refine QP.pick [6, 7] ?_
            exact QP.meet ⟨_, Option.some.inj h, AR60, cR60, CR60, none, 0, [], rfl, rfl, rfl, HR60, (Ow.nil (kInt .i64) _)⟩
          · replace hc := ne_of_beq_false hc
            rw [if_neg hc] at h
            have hc26 := hc
            clear hc
            refine WA.pure [9, 10, 11, 12] [6, 8, 65] (m := 3) (b' := 8190) (L' := [(6, .pointer (some ⟨b1, 0, none⟩)), (8, .pointer (some ⟨b2, 0, none⟩)), (65, .bool false)]) (by kernel_rfl) (NoPanic.then (NoPanic.body)) Under.refl hS (by kernel_rfl) ?_
            refine WA.tellD [13] (i := 0) (m := 2) (b' := 8191) (by kernel_rfl) (NoPanic.then (NoPanic.body)) Under.refl hS (by kernel_rfl) (op := .load 41 (.tmp 8)) (ty := 41) (d := some 53) (g := none) (by kernel_rfl) (by kernel_rfl) (by kernel_rfl) (Tells.load_box (i := 1) (b := b2) (o := 0) (agg := true) (by rfl) ag41 (by kernel_rfl) (fun h => by cases h) (Nat.le_of_ble_eq_true rfl) (v := .agg #[.int .i64 a0, .slice AR60 t4.1.length cR60, .slice none 0 0, .int .i64 0, .int .i64 0, .int .i64 0, .int .i64 0, .string (⟨#[]⟩ : ByteArray)]) (by kernel_rfl)) ?_
            refine WA.opK (i := 13) (kw' := 15) (m := 1) (b' := 16383) (by kernel_rfl) rfl hS (by kernel_rfl) (op := .store 41 (.tmp 6) (.tmp 53)) (ty := 0) (d := none) (g := none) (by kernel_rfl) (by kernel_rfl) (by kernel_rfl) (Does.store_box (i := 2) (b := b1) (o := 0) (v := .agg #[.int .i64 a0, .slice AR60 t4.1.length cR60, .slice none 0 0, .int .i64 0, .int .i64 0, .int .i64 0, .int .i64 0, .string (⟨#[]⟩ : ByteArray)]) (by rfl) sz41 (by kernel_rfl) (by kernel_rfl) (by kernel_rfl) (Free.zero _) (Nat.le_of_ble_eq_true rfl) (cells' := #[.int .i64 a0, .slice AR60 t4.1.length cR60, .slice none 0 0, .int .i64 0, .int .i64 0, .int .i64 0, .int .i64 0, .string (⟨#[]⟩ : ByteArray)]) (by kernel_rfl)) ?_
            rintro _ _ _ ⟨rfl, rfl, rfl⟩
            refine ⟨_, _, Under.refl, ?_⟩
            refine WA.pure [14] [6, 7] (m := 0) (b' := 32767) (L' := [(6, .pointer (some ⟨b1, 0, none⟩)), (7, .bool false)]) (by kernel_rfl) (NoPanic.then (NoPanic.body)) Under.refl hS (by kernel_rfl) ?_
            refine WA.done hS (by kernel_rfl) ?_
            refine QP.pick [6, 7] ?_
            refine QP.addNil ?_
            refine QP.dropAt 2 ?_
            refine QP.front (i := 1) rfl ?_
            refine QP.front (i := 2) rfl ?_
            refine QP.pick [6, 7] ?_
            exact QP.meet ⟨_, Option.some.inj h, AR60, cR60, CR60, none, 0, [], rfl, rfl, rfl, HR60, (Ow.nil (kInt .i64) _)⟩
        · replace hc := (Bool.eq_false_iff.1 hc)
          rw [if_neg hc] at h
          have hc25 := hc
          clear hc
          refine WA.pure [3, 4, 5, 6, 7, 8, 9, 10, 11, 12] [6, 8, 65] (m := 3) (b' := 8190) (L' := [(6, .pointer (some ⟨b1, 0, none⟩)), (8, .pointer (some ⟨b2, 0, none⟩)), (65, .bool false)]) (by kernel_rfl) (NoPanic.then (NoPanic.body)) Under.refl hS (by kernel_rfl) ?_
          refine WA.tellD [13] (i := 0) (m := 2) (b' := 8191) (by kernel_rfl) (NoPanic.then (NoPanic.body)) Under.refl hS (by kernel_rfl) (op := .load 41 (.tmp 8)) (ty := 41) (d := some 53) (g := none) (by kernel_rfl) (by kernel_rfl) (by kernel_rfl) (Tells.load_box (i := 1) (b := b2) (o := 0) (agg := true) (by rfl) ag41 (by kernel_rfl) (fun h => by cases h) (Nat.le_of_ble_eq_true rfl) (v := .agg #[.int .i64 a0, .slice AR60 t4.1.length cR60, .slice none 0 0, .int .i64 0, .int .i64 0, .int .i64 0, .int .i64 0, .string (⟨#[]⟩ : ByteArray)]) (by kernel_rfl)) ?_
          refine WA.opK (i := 13) (kw' := 15) (m := 1) (b' := 16383) (by kernel_rfl) rfl hS (by kernel_rfl) (op := .store 41 (.tmp 6) (.tmp 53)) (ty := 0) (d := none) (g := none) (by kernel_rfl) (by kernel_rfl) (by kernel_rfl) (Does.store_box (i := 2) (b := b1) (o := 0) (v := .agg #[.int .i64 a0, .slice AR60 t4.1.length cR60, .slice none 0 0, .int .i64 0, .int .i64 0, .int .i64 0, .int .i64 0, .string (⟨#[]⟩ : ByteArray)]) (by rfl) sz41 (by kernel_rfl) (by kernel_rfl) (by kernel_rfl) (Free.zero _) (Nat.le_of_ble_eq_true rfl) (cells' := #[.int .i64 a0, .slice AR60 t4.1.length cR60, .slice none 0 0, .int .i64 0, .int .i64 0, .int .i64 0, .int .i64 0, .string (⟨#[]⟩ : ByteArray)]) (by kernel_rfl)) ?_
          rintro _ _ _ ⟨rfl, rfl, rfl⟩
          refine ⟨_, _, Under.refl, ?_⟩
          refine WA.pure [14] [6, 7] (m := 0) (b' := 32767) (L' := [(6, .pointer (some ⟨b1, 0, none⟩)), (7, .bool false)]) (by kernel_rfl) (NoPanic.then (NoPanic.body)) Under.refl hS (by kernel_rfl) ?_
          refine WA.done hS (by kernel_rfl) ?_
          refine QP.pick [6, 7] ?_
          refine QP.addNil ?_
          refine QP.dropAt 2 ?_
          refine QP.front (i := 1) rfl ?_
          refine QP.front (i := 2) rfl ?_
          refine QP.pick [6, 7] ?_
          exact QP.meet ⟨_, Option.some.inj h, AR60, cR60, CR60, none, 0, [], rfl, rfl, rfl, HR60, (Ow.nil (kInt .i64) _)⟩
      · rintro _ _ _ ⟨s23, rfl, As23_2_f1, cs23_2_f1, Cs23_2_f1, As23_2_f2, cs23_2_f2, Cs23_2_f2, rfl, rfl, rfl, Hs23_2_f1, Hs23_2_f2⟩
        clear h
        replace h := hk24
        refine WP.ret ?_
        obtain rfl := Option.some.inj h
        refine QP.front (i := 2) rfl ?_
        refine QP.front (i := 2) rfl ?_
        exact QP.returnedM (rs := [.cell 6 41, .tmp 7]) (by kernel_rfl) (ResAll.cons (Res1.box (p := 6) (i := 2) (o := 0) (agg := true) (by rfl) ag41 (by kernel_rfl) (fun h => by cases h) (Nat.le_of_ble_eq_true rfl) (v := .agg #[.int .i64 s23.2.f0, .slice As23_2_f1 s23.2.f1.length cs23_2_f1, .slice As23_2_f2 s23.2.f2.length cs23_2_f2, .int .i64 s23.2.f3, .int .i64 s23.2.f4, .int .i64 s23.2.f5, .int .i64 s23.2.f6, .string s23.2.f7]) (by kernel_rfl)) (ResAll.cons (Res1.tmp (t := 7) (v := .bool s23.1) (by kernel_rfl)) ResAll.nil)) (by kernel_rfl) (fun W hI => ⟨_, _, _, rfl, ⟨As23_2_f1, cs23_2_f1, Cs23_2_f1, As23_2_f2, cs23_2_f2, Cs23_2_f2, rfl, Hs23_2_f1, Hs23_2_f2, rfl, rfl⟩, (hI.less 2 rfl)⟩)
  · replace hc := ne_of_beq_false hc
    rw [if_neg hc] at h
    have hc3 := hc
    clear hc
    refine WP.seqP [1, 2, 6, 8, 9, 10, 13, 34] (L' := [(1, .slice Al1 l1.length cl1), (2, .int .i64 a2), (6, .pointer (some ⟨b1, 0, none⟩)), (8, .pointer (some ⟨b2, 0, none⟩)), (9, .int .i64 0), (10, .bool false), (13, .int .i64 a0), (34, .bool (a0 == 2))]) (by kernel_rfl) ?_
    refine WP.cond (b := (a0 == 2)) (by kernel_rfl) (fun hc => ?_) (fun hc => ?_)
    · replace hc := eq_of_beq hc
      rw [if_pos hc] at h
      have hc32 := hc
      clear hc
      refine WP.region ?_
      refine WL.pure 0 1 [1, 2, 6, 8, 9, 10, 37] (L' := [(1, .slice Al1 l1.length cl1), (2, .int .i64 a2), (6, .pointer (some ⟨b1, 0, none⟩)), (8, .pointer (some ⟨b2, 0, none⟩)), (9, .int .i64 0), (10, .bool false), (37, .slice Al1 l1.length cl1)]) (by kernel_rfl) (by decide) ?_
      rw [Option.bind_eq_some_iff] at h
      obtain ⟨t33, ht34, h⟩ := h
      refine WL.op (op := .call { callee := (.value (.func 71)), args := #[(.tmp 37), (.const (.int .i64 0))], argTypes := #[22, 3] }) (ty := 106) (d := some 38) (g := none) (by kernel_rfl) (by kernel_rfl) (by kernel_rfl) (Does.call (f := 71) (args := [.slice Al1 l1.length cl1, .int .i64 0]) (by kernel_rfl) (fun W hI => (grapevineref4_Read_calls HT k l1 0 Al1 cl1 Hl1 t33 ht34 hI))) ?_
      rintro _ _ _ ⟨rfl, rfl, rfl⟩
      refine WL.pure 2 7 [1, 2, 6, 8, 9, 10, 39, 40, 41, 42] (L' := [(1, .slice Al1 l1.length cl1), (2, .int .i64 a2), (6, .pointer (some ⟨b1, 0, none⟩)), (8, .pointer (some ⟨b2, 0, none⟩)), (9, .int .i64 0), (10, .bool false), (39, .agg #[.int .i64 t33.1.f0, .int .i64 t33.1.f1, .int .i64 t33.1.f2, .int .i64 t33.1.f3, .string t33.1.f4]), (40, .int .i64 t33.2.1), (41, .bool t33.2.2), (42, .pointer (some ⟨b2, 3, none⟩))]) (by kernel_rfl) (by decide) ?_
      refine WL.op (op := .store 39 (.tmp 42) (.tmp 39)) (ty := 0) (d := none) (g := none) (by kernel_rfl) (by kernel_rfl) (by kernel_rfl) (Does.store_box (i := 0) (b := b2) (o := 3) (v := .agg #[.int .i64 t33.1.f0, .int .i64 t33.1.f1, .int .i64 t33.1.f2, .int .i64 t33.1.f3, .string t33.1.f4]) (by rfl) sz39 (by kernel_rfl) (by kernel_rfl) (by kernel_rfl) (Free.zero _) (Nat.le_of_ble_eq_true rfl) (cells' := #[.int .i64 a0, .slice none 0 0, .slice none 0 0, .int .i64 t33.1.f0, .int .i64 t33.1.f1, .int .i64 t33.1.f2, .int .i64 t33.1.f3, .string t33.1.f4]) (by kernel_rfl)) ?_
      rintro _ _ _ ⟨rfl, rfl, rfl⟩
      refine WL.rest 8 [1, 2, 6, 8, 9, 10] (L' := [(1, .slice Al1 l1.length cl1), (2, .int .i64 a2), (6, .pointer (some ⟨b1, 0, none⟩)), (8, .pointer (some ⟨b2, 0, none⟩)), (9, .int .i64 t33.2.1), (10, .bool t33.2.2)]) (by kernel_rfl) ?_
      refine QP.blockN ?_
      refine QP.next ?_
      refine WP.pick [1, 2, 6, 8, 9, 10] ?_
      rw [Option.bind_eq_some_iff] at h
      obtain ⟨os37, h, hk38⟩ := h
      refine WP.cut (fun L' G' Γ' => ∃ s37 : Bool × T41, s37 = os37 ∧ ∃ (As37_2_f1 : Option Addr), ∃ (cs37_2_f1 : Nat), ∃ (Cs37_2_f1 : Chunk), ∃ (As37_2_f2 : Option Addr), ∃ (cs37_2_f2 : Nat), ∃ (Cs37_2_f2 : Chunk), L' = [(6, .pointer (some ⟨b1, 0, none⟩)), (7, .bool s37.1)] ∧ G = G' ∧ [(b1, .cells #[.int .i64 s37.2.f0, .slice As37_2_f1 s37.2.f1.length cs37_2_f1, .slice As37_2_f2 s37.2.f2.length cs37_2_f2, .int .i64 s37.2.f3, .int .i64 s37.2.f4, .int .i64 s37.2.f5, .int .i64 s37.2.f6, .string s37.2.f7] 41 (0, 0))] :: Cs37_2_f1 :: Cs37_2_f2 :: Γ = Γ' ∧ Ow (kInt .i64) G As37_2_f1 cs37_2_f1 s37.2.f1 Cs37_2_f1 ∧ Ow (kInt .i64) G As37_2_f2 cs37_2_f2 s37.2.f2 Cs37_2_f2) ?_ ?_
      · clear hk38
        skip
        refine WP.any (N := 15) (S := [⟨some 53, [8], []⟩, ⟨some 54, [10], []⟩, ⟨some 55, [54], [1]⟩, ⟨some 56, [9, 55], [2]⟩, ⟨some 57, [1, 55], [2]⟩, ⟨some 58, [55, 57], [2, 4]⟩, ⟨some 59, [55, 56, 58], [2, 3, 5]⟩, ⟨some 60, [55, 59], [2, 6]⟩, ⟨some 61, [60], [2, 7]⟩, ⟨some 62, [8, 61], [8]⟩, ⟨some 63, [2, 61], [8]⟩, ⟨some 64, [61, 62, 63], [8, 9, 10]⟩, ⟨some 65, [61, 64], [8, 11]⟩, ⟨none, [6, 53], [0, 11]⟩, ⟨some 7, [65], [0, 1, 2, 3, 4, 5, 6, 7, 8, 9, 10, 11, 12, 13]⟩]) (kw := 13) (G0 := G) (Γ0 := [(b2, .cells #[.int .i64 a0, .slice none 0 0, .slice none 0 0, .int .i64 t33.1.f0, .int .i64 t33.1.f1, .int .i64 t33.1.f2, .int .i64 t33.1.f3, .string t33.1.f4] 41 (0, 0))] :: [(b1, .cells #[.int .i64 0, .slice none 0 0, .slice none 0 0, .int .i64 0, .int .i64 0, .int .i64 0, .int .i64 0, .string (⟨#[]⟩ : ByteArray)] 41 (0, 0))] :: Γ) mo (by kernel_rfl) (fun hS => ?_)
        refine WA.pure [1, 2] [1, 2, 6, 8, 9, 55] (m := 13) (b' := 6) (L' := [(1, .slice Al1 l1.length cl1), (2, .int .i64 a2), (6, .pointer (some ⟨b1, 0, none⟩)), (8, .pointer (some ⟨b2, 0, none⟩)), (9, .int .i64 t33.2.1), (55, .bool t33.2.2)]) (by kernel_rfl) (NoPanic.then (NoPanic.body)) Under.refl hS (by kernel_rfl) ?_
        refine WA.split 55 (b := t33.2.2) (by kernel_rfl) (fun hc => ?_) (fun hc => ?_)
        · replace hc := hc
          rw [if_pos hc] at h
          have hc39 := hc
          clear hc
          refine WA.pure [3, 4, 5, 6, 7, 8] [2, 6, 8, 61] (m := 7) (b' := 510) (L' := [(2, .int .i64 a2), (6, .pointer (some ⟨b1, 0, none⟩)), (8, .pointer (some ⟨b2, 0, none⟩)), (61, .bool (t33.2.1 == (l1.length : Int)))]) (by kernel_rfl) (NoPanic.then (NoPanic.body)) Under.refl hS (by kernel_rfl) ?_
          refine WA.split 61 (b := (t33.2.1 == (l1.length : Int))) (by kernel_rfl) (fun hc => ?_) (fun hc => ?_)
          · replace hc := eq_of_beq hc
            rw [if_pos hc] at h
            have hc40 := hc
            clear hc
            refine WA.pure [10] [6, 8, 61, 63] (m := 6) (b' := 1534) (L' := [(6, .pointer (some ⟨b1, 0, none⟩)), (8, .pointer (some ⟨b2, 0, none⟩)), (61, .bool true), (63, .int .i64 a2)]) (by kernel_rfl) (NoPanic.then (NoPanic.body)) Under.refl hS (by kernel_rfl) ?_
            refine WA.tellD [13] (i := 0) (m := 5) (b' := 1535) (by kernel_rfl) (NoPanic.then (NoPanic.body)) Under.refl hS (by kernel_rfl) (op := .load 41 (.tmp 8)) (ty := 41) (d := some 53) (g := none) (by kernel_rfl) (by kernel_rfl) (by kernel_rfl) (Tells.load_box (i := 0) (b := b2) (o := 0) (agg := true) (by rfl) ag41 (by kernel_rfl) (fun h => by cases h) (Nat.le_of_ble_eq_true rfl) (v := .agg #[.int .i64 a0, .slice none 0 0, .slice none 0 0, .int .i64 t33.1.f0, .int .i64 t33.1.f1, .int .i64 t33.1.f2, .int .i64 t33.1.f3, .string t33.1.f4]) (by kernel_rfl)) ?_
            refine WA.tellD [13, 11] (i := 9) (m := 4) (b' := 2047) (by kernel_rfl) (NoPanic.then (NoPanic.body)) Under.refl hS (by kernel_rfl) (op := .load 41 (.tmp 8)) (ty := 41) (d := some 62) (g := some (8, true)) (by kernel_rfl) (by kernel_rfl) (by kernel_rfl) (Tells.load_box (i := 0) (b := b2) (o := 0) (agg := true) (by rfl) ag41 (by kernel_rfl) (fun h => by cases h) (Nat.le_of_ble_eq_true rfl) (v := .agg #[.int .i64 a0, .slice none 0 0, .slice none 0 0, .int .i64 t33.1.f0, .int .i64 t33.1.f1, .int .i64 t33.1.f2, .int .i64 t33.1.f3, .string t33.1.f4]) (by kernel_rfl)) ?_
            rw [Option.bind_eq_some_iff] at h
            obtain ⟨t41, ht42, h⟩ := h
            refine WA.op (i := 11) (m := 3) (b' := 4095) (by kernel_rfl) hS (by kernel_rfl) (op := .call { callee := (.value (.func 78)), args := #[(.tmp 62), (.tmp 63)], argTypes := #[41, 3] }) (ty := 4) (d := some 64) (g := some (8, true)) (by kernel_rfl) (by kernel_rfl) (by kernel_rfl) (Does.call (f := 78) (args := [.agg #[.int .i64 a0, .slice none 0 0, .slice none 0 0, .int .i64 t33.1.f0, .int .i64 t33.1.f1, .int .i64 t33.1.f2, .int .i64 t33.1.f3, .string t33.1.f4], .int .i64 a2]) (by kernel_rfl) (fun W hI => (grapevineref8_May_calls HT k (⟨a0, ([] : List Int), ([] : List Int), t33.1.f0, t33.1.f1, t33.1.f2, t33.1.f3, t33.1.f4⟩ : T41) a2 none 0 (Rd.nil _ _ _ _) none 0 (Rd.nil _ _ _ _) t41 ht42 hI))) ?_
            rintro _ _ _ ⟨rfl, rfl, rfl⟩
            refine ⟨_, _, Under.refl, Under.refl, ?_⟩
            refine WA.pure [12] [6, 53, 65] (m := 2) (b' := 8191) (L' := [(6, .pointer (some ⟨b1, 0, none⟩)), (53, .agg #[.int .i64 a0, .slice none 0 0, .slice none 0 0, .int .i64 t33.1.f0, .int .i64 t33.1.f1, .int .i64 t33.1.f2, .int .i64 t33.1.f3, .string t33.1.f4]), (65, .bool t41)]) (by kernel_rfl) (NoPanic.then (NoPanic.body)) Under.refl hS (by kernel_rfl) ?_
            refine WA.opK (i := 13) (kw' := 15) (m := 1) (b' := 16383) (by kernel_rfl) rfl hS (by kernel_rfl) (op := .store 41 (.tmp 6) (.tmp 53)) (ty := 0) (d := none) (g := none) (by kernel_rfl) (by kernel_rfl) (by kernel_rfl) (Does.store_box (i := 1) (b := b1) (o := 0) (v := .agg #[.int .i64 a0, .slice none 0 0, .slice none 0 0, .int .i64 t33.1.f0, .int .i64 t33.1.f1, .int .i64 t33.1.f2, .int .i64 t33.1.f3, .string t33.1.f4]) (by rfl) sz41 (by kernel_rfl) (by kernel_rfl) (by kernel_rfl) (Free.zero _) (Nat.le_of_ble_eq_true rfl) (cells' := #[.int .i64 a0, .slice none 0 0, .slice none 0 0, .int .i64 t33.1.f0, .int .i64 t33.1.f1, .int .i64 t33.1.f2, .int .i64 t33.1.f3, .string t33.1.f4]) (by kernel_rfl)) ?_
            rintro _ _ _ ⟨rfl, rfl, rfl⟩
            refine ⟨_, _, Under.refl, ?_⟩
            refine WA.pure [14] [6, 7] (m := 0) (b' := 32767) (L' := [(6, .pointer (some ⟨b1, 0, none⟩)), (7, .bool t41)]) (by kernel_rfl) (NoPanic.then (NoPanic.body)) Under.refl hS (by kernel_rfl) ?_
            refine WA.done hS (by kernel_rfl) ?_
            refine QP.pick [6, 7] ?_
            refine QP.addNil ?_
            refine QP.addNil ?_
            refine QP.dropAt 2 ?_
            refine QP.front (i := 1) rfl ?_
            refine QP.front (i := 2) rfl ?_
            refine QP.pick [6, 7] ?_
            exact QP.meet ⟨_, Option.some.inj h, none, 0, [], none, 0, [], rfl, rfl, rfl, (Ow.nil (kInt .i64) _), (Ow.nil (kInt .i64) _)⟩
          · replace hc := ne_of_beq_false hc
            rw [if_neg hc] at h
            have hc40 := hc
            clear hc
            refine WA.pure [9, 10, 11, 12] [6, 8, 65] (m := 3) (b' := 8190) (L' := [(6, .pointer (some ⟨b1, 0, none⟩)), (8, .pointer (some ⟨b2, 0, none⟩)), (65, .bool false)]) (by kernel_rfl) (NoPanic.then (NoPanic.body)) Under.refl hS (by kernel_rfl) ?_
            refine WA.tellD [13] (i := 0) (m := 2) (b' := 8191) (by kernel_rfl) (NoPanic.then (NoPanic.body)) Under.refl hS (by kernel_rfl) (op := .load 41 (.tmp 8)) (ty := 41) (d := some 53) (g := none) (by kernel_rfl) (by kernel_rfl) (by kernel_rfl) (Tells.load_box (i := 0) (b := b2) (o := 0) (agg := true) (by rfl) ag41 (by kernel_rfl) (fun h => by cases h) (Nat.le_of_ble_eq_true rfl) (v := .agg #[.int .i64 a0, .slice none 0 0, .slice none 0 0, .int .i64 t33.1.f0, .int .i64 t33.1.f1, .int .i64 t33.1.f2, .int .i64 t33.1.f3, .string t33.1.f4]) (by kernel_rfl)) ?_
            refine WA.opK (i := 13) (kw' := 15) (m := 1) (b' := 16383) (by kernel_rfl) rfl hS (by kernel_rfl) (op := .store 41 (.tmp 6) (.tmp 53)) (ty := 0) (d := none) (g := none) (by kernel_rfl) (by kernel_rfl) (by kernel_rfl) (Does.store_box (i := 1) (b := b1) (o := 0) (v := .agg #[.int .i64 a0, .slice none 0 0, .slice none 0 0, .int .i64 t33.1.f0, .int .i64 t33.1.f1, .int .i64 t33.1.f2, .int .i64 t33.1.f3, .string t33.1.f4]) (by rfl) sz41 (by kernel_rfl) (by kernel_rfl) (by kernel_rfl) (Free.zero _) (Nat.le_of_ble_eq_true rfl) (cells' := #[.int .i64 a0, .slice none 0 0, .slice none 0 0, .int .i64 t33.1.f0, .int .i64 t33.1.f1, .int .i64 t33.1.f2, .int .i64 t33.1.f3, .string t33.1.f4]) (by kernel_rfl)) ?_
            rintro _ _ _ ⟨rfl, rfl, rfl⟩
            refine ⟨_, _, Under.refl, ?_⟩
            refine WA.pure [14] [6, 7] (m := 0) (b' := 32767) (L' := [(6, .pointer (some ⟨b1, 0, none⟩)), (7, .bool false)]) (by kernel_rfl) (NoPanic.then (NoPanic.body)) Under.refl hS (by kernel_rfl) ?_
            refine WA.done hS (by kernel_rfl) ?_
            refine QP.pick [6, 7] ?_
            refine QP.addNil ?_
            refine QP.addNil ?_
            refine QP.dropAt 2 ?_
            refine QP.front (i := 1) rfl ?_
            refine QP.front (i := 2) rfl ?_
            refine QP.pick [6, 7] ?_
            exact QP.meet ⟨_, Option.some.inj h, none, 0, [], none, 0, [], rfl, rfl, rfl, (Ow.nil (kInt .i64) _), (Ow.nil (kInt .i64) _)⟩
        · replace hc := (Bool.eq_false_iff.1 hc)
          rw [if_neg hc] at h
          have hc39 := hc
          clear hc
          refine WA.pure [3, 4, 5, 6, 7, 8, 9, 10, 11, 12] [6, 8, 65] (m := 3) (b' := 8190) (L' := [(6, .pointer (some ⟨b1, 0, none⟩)), (8, .pointer (some ⟨b2, 0, none⟩)), (65, .bool false)]) (by kernel_rfl) (NoPanic.then (NoPanic.body)) Under.refl hS (by kernel_rfl) ?_
          refine WA.tellD [13] (i := 0) (m := 2) (b' := 8191) (by kernel_rfl) (NoPanic.then (NoPanic.body)) Under.refl hS (by kernel_rfl) (op := .load 41 (.tmp 8)) (ty := 41) (d := some 53) (g := none) (by kernel_rfl) (by kernel_rfl) (by kernel_rfl) (Tells.load_box (i := 0) (b := b2) (o := 0) (agg := true) (by rfl) ag41 (by kernel_rfl) (fun h => by cases h) (Nat.le_of_ble_eq_true rfl) (v := .agg #[.int .i64 a0, .slice none 0 0, .slice none 0 0, .int .i64 t33.1.f0, .int .i64 t33.1.f1, .int .i64 t33.1.f2, .int .i64 t33.1.f3, .string t33.1.f4]) (by kernel_rfl)) ?_
          refine WA.opK (i := 13) (kw' := 15) (m := 1) (b' := 16383) (by kernel_rfl) rfl hS (by kernel_rfl) (op := .store 41 (.tmp 6) (.tmp 53)) (ty := 0) (d := none) (g := none) (by kernel_rfl) (by kernel_rfl) (by kernel_rfl) (Does.store_box (i := 1) (b := b1) (o := 0) (v := .agg #[.int .i64 a0, .slice none 0 0, .slice none 0 0, .int .i64 t33.1.f0, .int .i64 t33.1.f1, .int .i64 t33.1.f2, .int .i64 t33.1.f3, .string t33.1.f4]) (by rfl) sz41 (by kernel_rfl) (by kernel_rfl) (by kernel_rfl) (Free.zero _) (Nat.le_of_ble_eq_true rfl) (cells' := #[.int .i64 a0, .slice none 0 0, .slice none 0 0, .int .i64 t33.1.f0, .int .i64 t33.1.f1, .int .i64 t33.1.f2, .int .i64 t33.1.f3, .string t33.1.f4]) (by kernel_rfl)) ?_
          rintro _ _ _ ⟨rfl, rfl, rfl⟩
          refine ⟨_, _, Under.refl, ?_⟩
          refine WA.pure [14] [6, 7] (m := 0) (b' := 32767) (L' := [(6, .pointer (some ⟨b1, 0, none⟩)), (7, .bool false)]) (by kernel_rfl) (NoPanic.then (NoPanic.body)) Under.refl hS (by kernel_rfl) ?_
          refine WA.done hS (by kernel_rfl) ?_
          refine QP.pick [6, 7] ?_
          refine QP.addNil ?_
          refine QP.addNil ?_
          refine QP.dropAt 2 ?_
          refine QP.front (i := 1) rfl ?_
          refine QP.front (i := 2) rfl ?_
          refine QP.pick [6, 7] ?_
          exact QP.meet ⟨_, Option.some.inj h, none, 0, [], none, 0, [], rfl, rfl, rfl, (Ow.nil (kInt .i64) _), (Ow.nil (kInt .i64) _)⟩
      · rintro _ _ _ ⟨s37, rfl, As37_2_f1, cs37_2_f1, Cs37_2_f1, As37_2_f2, cs37_2_f2, Cs37_2_f2, rfl, rfl, rfl, Hs37_2_f1, Hs37_2_f2⟩
        clear h
        replace h := hk38
        refine WP.ret ?_
        obtain rfl := Option.some.inj h
        refine QP.front (i := 2) rfl ?_
        refine QP.front (i := 2) rfl ?_
        exact QP.returnedM (rs := [.cell 6 41, .tmp 7]) (by kernel_rfl) (ResAll.cons (Res1.box (p := 6) (i := 2) (o := 0) (agg := true) (by rfl) ag41 (by kernel_rfl) (fun h => by cases h) (Nat.le_of_ble_eq_true rfl) (v := .agg #[.int .i64 s37.2.f0, .slice As37_2_f1 s37.2.f1.length cs37_2_f1, .slice As37_2_f2 s37.2.f2.length cs37_2_f2, .int .i64 s37.2.f3, .int .i64 s37.2.f4, .int .i64 s37.2.f5, .int .i64 s37.2.f6, .string s37.2.f7]) (by kernel_rfl)) (ResAll.cons (Res1.tmp (t := 7) (v := .bool s37.1) (by kernel_rfl)) ResAll.nil)) (by kernel_rfl) (fun W hI => ⟨_, _, _, rfl, ⟨As37_2_f1, cs37_2_f1, Cs37_2_f1, As37_2_f2, cs37_2_f2, Cs37_2_f2, rfl, Hs37_2_f1, Hs37_2_f2, rfl, rfl⟩, (hI.less 2 rfl)⟩)
    · replace hc := ne_of_beq_false hc
      rw [if_neg hc] at h
      have hc32 := hc
      clear hc
      refine WP.seqP [1, 2, 6, 8, 9, 10, 43] (L' := [(1, .slice Al1 l1.length cl1), (2, .int .i64 a2), (6, .pointer (some ⟨b1, 0, none⟩)), (8, .pointer (some ⟨b2, 0, none⟩)), (9, .int .i64 0), (10, .bool false), (43, .bool (a0 == 3))]) (by kernel_rfl) ?_
      refine WP.cond (b := (a0 == 3)) (by kernel_rfl) (fun hc => ?_) (fun hc => ?_)
      · replace hc := eq_of_beq hc
        rw [if_pos hc] at h
        have hc45 := hc
        clear hc
        refine WP.region ?_
        refine WL.pure 0 2 [1, 2, 6, 8, 9, 10, 46, 47] (L' := [(1, .slice Al1 l1.length cl1), (2, .int .i64 a2), (6, .pointer (some ⟨b1, 0, none⟩)), (8, .pointer (some ⟨b2, 0, none⟩)), (9, .int .i64 0), (10, .bool false), (46, .slice Al1 l1.length cl1), (47, .int .i64 a2)]) (by kernel_rfl) (by decide) ?_
        rw [Option.bind_eq_some_iff] at h
        obtain ⟨t46, ht47, h⟩ := h
        refine WL.op (op := .call { callee := (.value (.func 77)), args := #[(.tmp 46), (.const (.int .i64 0)), (.tmp 47)], argTypes := #[22, 3, 3] }) (ty := 112) (d := some 48) (g := none) (by kernel_rfl) (by kernel_rfl) (by kernel_rfl) (Does.call (f := 77) (args := [.slice Al1 l1.length cl1, .int .i64 0, .int .i64 a2]) (by kernel_rfl) (fun W hI => (grapevineref8_take_calls k l1 0 a2 Al1 cl1 Hl1 t46 ht47 hI))) ?_
        rintro _ _ _ ⟨AR480, cR480, CR480, rfl, HR480, rfl, rfl⟩
        refine WL.pure 3 8 [1, 2, 6, 8, 9, 10, 49, 50, 51, 52] (L' := [(1, .slice Al1 l1.length cl1), (2, .int .i64 a2), (6, .pointer (some ⟨b1, 0, none⟩)), (8, .pointer (some ⟨b2, 0, none⟩)), (9, .int .i64 0), (10, .bool false), (49, .slice AR480 t46.1.length cR480), (50, .int .i64 t46.2.1), (51, .bool t46.2.2), (52, .pointer (some ⟨b2, 2, none⟩))]) (by kernel_rfl) (by decide) ?_
        refine WL.op (op := .store 32 (.tmp 52) (.tmp 49)) (ty := 0) (d := none) (g := none) (by kernel_rfl) (by kernel_rfl) (by kernel_rfl) (Does.store_box (i := 1) (b := b2) (o := 2) (v := .slice AR480 t46.1.length cR480) (by rfl) sz32 (by kernel_rfl) (by kernel_rfl) (by kernel_rfl) (Free.zero _) (Nat.le_of_ble_eq_true rfl) (cells' := #[.int .i64 a0, .slice none 0 0, .slice AR480 t46.1.length cR480, .int .i64 0, .int .i64 0, .int .i64 0, .int .i64 0, .string (⟨#[]⟩ : ByteArray)]) (by kernel_rfl)) ?_
        rintro _ _ _ ⟨rfl, rfl, rfl⟩
        refine WL.rest 9 [1, 2, 6, 8, 9, 10] (L' := [(1, .slice Al1 l1.length cl1), (2, .int .i64 a2), (6, .pointer (some ⟨b1, 0, none⟩)), (8, .pointer (some ⟨b2, 0, none⟩)), (9, .int .i64 t46.2.1), (10, .bool t46.2.2)]) (by kernel_rfl) ?_
        refine QP.blockN ?_
        refine QP.next ?_
        refine WP.pick [1, 2, 6, 8, 9, 10] ?_
        rw [Option.bind_eq_some_iff] at h
        obtain ⟨os50, h, hk51⟩ := h
        refine WP.cut (fun L' G' Γ' => ∃ s50 : Bool × T41, s50 = os50 ∧ ∃ (As50_2_f1 : Option Addr), ∃ (cs50_2_f1 : Nat), ∃ (Cs50_2_f1 : Chunk), ∃ (As50_2_f2 : Option Addr), ∃ (cs50_2_f2 : Nat), ∃ (Cs50_2_f2 : Chunk), L' = [(6, .pointer (some ⟨b1, 0, none⟩)), (7, .bool s50.1)] ∧ G = G' ∧ [(b1, .cells #[.int .i64 s50.2.f0, .slice As50_2_f1 s50.2.f1.length cs50_2_f1, .slice As50_2_f2 s50.2.f2.length cs50_2_f2, .int .i64 s50.2.f3, .int .i64 s50.2.f4, .int .i64 s50.2.f5, .int .i64 s50.2.f6, .string s50.2.f7] 41 (0, 0))] :: Cs50_2_f1 :: Cs50_2_f2 :: Γ = Γ' ∧ Ow (kInt .i64) G As50_2_f1 cs50_2_f1 s50.2.f1 Cs50_2_f1 ∧ Ow (kInt .i64) G As50_2_f2 cs50_2_f2 s50.2.f2 Cs50_2_f2) ?_ ?_
        · clear hk51
          skip
          refine WP.any (N := 15) (S := [⟨some 53, [8], []⟩, ⟨some 54, [10], []⟩, ⟨some 55, [54], [1]⟩, ⟨some 56, [9, 55], [2]⟩, ⟨some 57, [1, 55], [2]⟩, ⟨some 58, [55, 57], [2, 4]⟩, ⟨some 59, [55, 56, 58], [2, 3, 5]⟩, ⟨some 60, [55, 59], [2, 6]⟩, ⟨some 61, [60], [2, 7]⟩, ⟨some 62, [8, 61], [8]⟩, ⟨some 63, [2, 61], [8]⟩, ⟨some 64, [61, 62, 63], [8, 9, 10]⟩, ⟨some 65, [61, 64], [8, 11]⟩, ⟨none, [6, 53], [0, 11]⟩, ⟨some 7, [65], [0, 1, 2, 3, 4, 5, 6, 7, 8, 9, 10, 11, 12, 13]⟩]) (kw := 13) (G0 := G) (Γ0 := CR480 :: [(b2, .cells #[.int .i64 a0, .slice none 0 0, .slice AR480 t46.1.length cR480, .int .i64 0, .int .i64 0, .int .i64 0, .int .i64 0, .string (⟨#[]⟩ : ByteArray)] 41 (0, 0))] :: [(b1, .cells #[.int .i64 0, .slice none 0 0, .slice none 0 0, .int .i64 0, .int .i64 0, .int .i64 0, .int .i64 0, .string (⟨#[]⟩ : ByteArray)] 41 (0, 0))] :: Γ) mo (by kernel_rfl) (fun hS => ?_)
          refine WA.pure [1, 2] [1, 2, 6, 8, 9, 55] (m := 13) (b' := 6) (L' := [(1, .slice Al1 l1.length cl1), (2, .int .i64 a2), (6, .pointer (some ⟨b1, 0, none⟩)), (8, .pointer (some ⟨b2, 0, none⟩)), (9, .int .i64 t46.2.1), (55, .bool t46.2.2)]) (by kernel_rfl) (NoPanic.then (NoPanic.body)) Under.refl hS (by kernel_rfl) ?_
          refine WA.split 55 (b := t46.2.2) (by kernel_rfl) (fun hc => ?_) (fun hc => ?_)
          · replace hc := hc
            rw [if_pos hc] at h
            have hc52 := hc
            clear hc
            refine WA.pure [3, 4, 5, 6, 7, 8] [2, 6, 8, 61] (m := 7) (b' := 510) (L' := [(2, .int .i64 a2), (6, .pointer (some ⟨b1, 0, none⟩)), (8, .pointer (some ⟨b2, 0, none⟩)), (61, .bool (t46.2.1 == (l1.length : Int)))]) (by kernel_rfl) (NoPanic.then (NoPanic.body)) Under.refl hS (by kernel_rfl) ?_
            refine WA.split 61 (b := (t46.2.1 == (l1.length : Int))) (by kernel_rfl) (fun hc => ?_) (fun hc => ?_)
            · replace hc := eq_of_beq hc
              rw [if_pos hc] at h
              have hc53 := hc
              clear hc
              refine WA.pure [10] [6, 8, 61, 63] (m := 6) (b' := 1534) (L' := [(6, .pointer (some ⟨b1, 0, none⟩)), (8, .pointer (some ⟨b2, 0, none⟩)), (61, .bool true), (63, .int .i64 a2)]) (by kernel_rfl) (NoPanic.then (NoPanic.body)) Under.refl hS (by kernel_rfl) ?_
              refine WA.tellD [13] (i := 0) (m := 5) (b' := 1535) (by kernel_rfl) (NoPanic.then (NoPanic.body)) Under.refl hS (by kernel_rfl) (op := .load 41 (.tmp 8)) (ty := 41) (d := some 53) (g := none) (by kernel_rfl) (by kernel_rfl) (by kernel_rfl) (Tells.load_box (i := 1) (b := b2) (o := 0) (agg := true) (by rfl) ag41 (by kernel_rfl) (fun h => by cases h) (Nat.le_of_ble_eq_true rfl) (v := .agg #[.int .i64 a0, .slice none 0 0, .slice AR480 t46.1.length cR480, .int .i64 0, .int .i64 0, .int .i64 0, .int .i64 0, .string (⟨#[]⟩ : ByteArray)]) (by kernel_rfl)) ?_
              refine WA.tellD [13, 11] (i := 9) (m := 4) (b' := 2047) (by kernel_rfl) (NoPanic.then (NoPanic.body)) Under.refl hS (by kernel_rfl) (op := .load 41 (.tmp 8)) (ty := 41) (d := some 62) (g := some (8, true)) (by kernel_rfl) (by kernel_rfl) (by kernel_rfl) (Tells.load_box (i := 1) (b := b2) (o := 0) (agg := true) (by rfl) ag41 (by kernel_rfl) (fun h => by cases h) (Nat.le_of_ble_eq_true rfl) (v := .agg #[.int .i64 a0, .slice none 0 0, .slice AR480 t46.1.length cR480, .int .i64 0, .int .i64 0, .int .i64 0, .int .i64 0, .string (⟨#[]⟩ : ByteArray)]) (by kernel_rfl)) ?_
              rw [Option.bind_eq_some_iff] at h
              obtain ⟨t54, ht55, h⟩ := h
              refine WA.op (i := 11) (m := 3) (b' := 4095) (by kernel_rfl) hS (by kernel_rfl) (op := .call { callee := (.value (.func 78)), args := #[(.tmp 62), (.tmp 63)], argTypes := #[41, 3] }) (ty := 4) (d := some 64) (g := some (8, true)) (by kernel_rfl) (by kernel_rfl) (by kernel_rfl) (Does.call (Φ := fun v' G' Γ' => v' = .bool t54 ∧ G = G' ∧ CR480 :: [(b2, .cells #[.int .i64 a0, .slice none 0 0, .slice AR480 t46.1.length cR480, .int .i64 0, .int .i64 0, .int .i64 0, .int .i64 0, .string (⟨#[]⟩ : ByteArray)] 41 (0, 0))] :: [(b1, .cells #[.int .i64 0, .slice none 0 0, .slice none 0 0, .int .i64 0, .int .i64 0, .int .i64 0, .int .i64 0, .string (⟨#[]⟩ : ByteArray)] 41 (0, 0))] :: Γ = Γ') (f := 78) (args := [.agg #[.int .i64 a0, .slice none 0 0, .slice AR480 t46.1.length cR480, .int .i64 0, .int .i64 0, .int .i64 0, .int .i64 0, .string (⟨#[]⟩ : ByteArray)], .int .i64 a2]) (by kernel_rfl) (fun W hI => (Calls.lendN (Φ := fun v' N => v' = .bool t54 ∧ N = []) (H := []) (i := 0) rfl hI (fun _ e l58 nl58 hI => by subst e; exact (((grapevineref8_May_calls (HT.mono l58) k (⟨a0, ([] : List Int), t46.1, 0, 0, 0, 0, (⟨#[]⟩ : ByteArray)⟩ : T41) a2 none 0 (Rd.nil _ _ _ _) AR480 cR480 (HR480.rdN l58 nl58) t54 ht55 hI)).mono fun _ _ hr => by obtain ⟨_, _, _, rfl, hd, hI⟩ := hr; obtain ⟨rfl, rfl, rfl⟩ := hd; exact ⟨_, _, _, rfl, ⟨[], ⟨rfl, rfl⟩, rfl, rfl⟩, hI⟩))).mono fun _ _ hr => by obtain ⟨_, _, _, rfl, ⟨_, hd, rfl, rfl⟩, hI⟩ := hr; obtain ⟨rfl, rfl⟩ := hd; exact ⟨_, _, _, rfl, ⟨rfl, rfl, rfl⟩, hI⟩)) ?_
              rintro _ _ _ ⟨rfl, rfl, rfl⟩
              refine ⟨_, _, Under.refl, Under.refl, ?_⟩
              refine WA.pure [12] [6, 53, 65] (m := 2) (b' := 8191) (L' := [(6, .pointer (some ⟨b1, 0, none⟩)), (53, .agg #[.int .i64 a0, .slice none 0 0, .slice AR480 t46.1.length cR480, .int .i64 0, .int .i64 0, .int .i64 0, .int .i64 0, .string (⟨#[]⟩ : ByteArray)]), (65, .bool t54)]) (by kernel_rfl) (NoPanic.then (NoPanic.body)) Under.refl hS (by kernel_rfl) ?_
              refine WA.opK (i := 13) (kw' := 15) (m := 1) (b' := 16383) (by kernel_rfl) rfl hS (by kernel_rfl) (op := .store 41 (.tmp 6) (.tmp 53)) (ty := 0) (d := none) (g := none) (by kernel_rfl) (by kernel_rfl) (by kernel_rfl) (Does.store_box (i := 2) (b := b1) (o := 0) (v := .agg #[.int .i64 a0, .slice none 0 0, .slice AR480 t46.1.length cR480, .int .i64 0, .int .i64 0, .int .i64 0, .int .i64 0, .string (⟨#[]⟩ : ByteArray)]) (by rfl) sz41 (by kernel_rfl) (by kernel_rfl) (by kernel_rfl) (Free.zero _) (Nat.le_of_ble_eq_true rfl) (cells' := #[.int .i64 a0, .slice none 0 0, .slice AR480 t46.1.length cR480, .int .i64 0, .int .i64 0, .int .i64 0, .int .i64 0, .string (⟨#[]⟩ : ByteArray)]) (by kernel_rfl)) ?_
              rintro _ _ _ ⟨rfl, rfl, rfl⟩
              refine ⟨_, _, Under.refl, ?_⟩
              refine WA.pure [14] [6, 7] (m := 0) (b' := 32767) (L' := [(6, .pointer (some ⟨b1, 0, none⟩)), (7, .bool t54)]) (by kernel_rfl) (NoPanic.then (NoPanic.body)) Under.refl hS (by kernel_rfl) ?_
              refine WA.done hS (by kernel_rfl) ?_
              refine QP.pick [6, 7] ?_
              refine QP.addNil ?_
              refine QP.dropAt 2 ?_
              refine QP.front (i := 1) rfl ?_
              refine QP.front (i := 1) rfl ?_
              refine QP.front (i := 2) rfl ?_
              refine QP.pick [6, 7] ?_
              exact QP.meet ⟨_, Option.some.inj h, none, 0, [], AR480, cR480, CR480, rfl, rfl, rfl, (Ow.nil (kInt .i64) _), HR480⟩
            · replace hc := ne_of_beq_false hc
              rw [if_neg hc] at h
              have hc53 := hc
              clear hc
              refine WA.pure [9, 10, 11, 12] [6, 8, 65] (m := 3) (b' := 8190) (L' := [(6, .pointer (some ⟨b1, 0, none⟩)), (8, .pointer (some ⟨b2, 0, none⟩)), (65, .bool false)]) (by kernel_rfl) (NoPanic.then (NoPanic.body)) Under.refl hS (by kernel_rfl) ?_
              refine WA.tellD [13] (i := 0) (m := 2) (b' := 8191) (by kernel_rfl) (NoPanic.then (NoPanic.body)) Under.refl hS (by kernel_rfl) (op := .load 41 (.tmp 8)) (ty := 41) (d := some 53) (g := none) (by kernel_rfl) (by kernel_rfl) (by kernel_rfl) (Tells.load_box (i := 1) (b := b2) (o := 0) (agg := true) (by rfl) ag41 (by kernel_rfl) (fun h => by cases h) (Nat.le_of_ble_eq_true rfl) (v := .agg #[.int .i64 a0, .slice none 0 0, .slice AR480 t46.1.length cR480, .int .i64 0, .int .i64 0, .int .i64 0, .int .i64 0, .string (⟨#[]⟩ : ByteArray)]) (by kernel_rfl)) ?_
              refine WA.opK (i := 13) (kw' := 15) (m := 1) (b' := 16383) (by kernel_rfl) rfl hS (by kernel_rfl) (op := .store 41 (.tmp 6) (.tmp 53)) (ty := 0) (d := none) (g := none) (by kernel_rfl) (by kernel_rfl) (by kernel_rfl) (Does.store_box (i := 2) (b := b1) (o := 0) (v := .agg #[.int .i64 a0, .slice none 0 0, .slice AR480 t46.1.length cR480, .int .i64 0, .int .i64 0, .int .i64 0, .int .i64 0, .string (⟨#[]⟩ : ByteArray)]) (by rfl) sz41 (by kernel_rfl) (by kernel_rfl) (by kernel_rfl) (Free.zero _) (Nat.le_of_ble_eq_true rfl) (cells' := #[.int .i64 a0, .slice none 0 0, .slice AR480 t46.1.length cR480, .int .i64 0, .int .i64 0, .int .i64 0, .int .i64 0, .string (⟨#[]⟩ : ByteArray)]) (by kernel_rfl)) ?_
              rintro _ _ _ ⟨rfl, rfl, rfl⟩
              refine ⟨_, _, Under.refl, ?_⟩
              refine WA.pure [14] [6, 7] (m := 0) (b' := 32767) (L' := [(6, .pointer (some ⟨b1, 0, none⟩)), (7, .bool false)]) (by kernel_rfl) (NoPanic.then (NoPanic.body)) Under.refl hS (by kernel_rfl) ?_
              refine WA.done hS (by kernel_rfl) ?_
              refine QP.pick [6, 7] ?_
              refine QP.addNil ?_
              refine QP.dropAt 2 ?_
              refine QP.front (i := 1) rfl ?_
              refine QP.front (i := 1) rfl ?_
              refine QP.front (i := 2) rfl ?_
              refine QP.pick [6, 7] ?_
              exact QP.meet ⟨_, Option.some.inj h, none, 0, [], AR480, cR480, CR480, rfl, rfl, rfl, (Ow.nil (kInt .i64) _), HR480⟩
          · replace hc := (Bool.eq_false_iff.1 hc)
            rw [if_neg hc] at h
            have hc52 := hc
            clear hc
            refine WA.pure [3, 4, 5, 6, 7, 8, 9, 10, 11, 12] [6, 8, 65] (m := 3) (b' := 8190) (L' := [(6, .pointer (some ⟨b1, 0, none⟩)), (8, .pointer (some ⟨b2, 0, none⟩)), (65, .bool false)]) (by kernel_rfl) (NoPanic.then (NoPanic.body)) Under.refl hS (by kernel_rfl) ?_
            refine WA.tellD [13] (i := 0) (m := 2) (b' := 8191) (by kernel_rfl) (NoPanic.then (NoPanic.body)) Under.refl hS (by kernel_rfl) (op := .load 41 (.tmp 8)) (ty := 41) (d := some 53) (g := none) (by kernel_rfl) (by kernel_rfl) (by kernel_rfl) (Tells.load_box (i := 1) (b := b2) (o := 0) (agg := true) (by rfl) ag41 (by kernel_rfl) (fun h => by cases h) (Nat.le_of_ble_eq_true rfl) (v := .agg #[.int .i64 a0, .slice none 0 0, .slice AR480 t46.1.length cR480, .int .i64 0, .int .i64 0, .int .i64 0, .int .i64 0, .string (⟨#[]⟩ : ByteArray)]) (by kernel_rfl)) ?_
            refine WA.opK (i := 13) (kw' := 15) (m := 1) (b' := 16383) (by kernel_rfl) rfl hS (by kernel_rfl) (op := .store 41 (.tmp 6) (.tmp 53)) (ty := 0) (d := none) (g := none) (by kernel_rfl) (by kernel_rfl) (by kernel_rfl) (Does.store_box (i := 2) (b := b1) (o := 0) (v := .agg #[.int .i64 a0, .slice none 0 0, .slice AR480 t46.1.length cR480, .int .i64 0, .int .i64 0, .int .i64 0, .int .i64 0, .string (⟨#[]⟩ : ByteArray)]) (by rfl) sz41 (by kernel_rfl) (by kernel_rfl) (by kernel_rfl) (Free.zero _) (Nat.le_of_ble_eq_true rfl) (cells' := #[.int .i64 a0, .slice none 0 0, .slice AR480 t46.1.length cR480, .int .i64 0, .int .i64 0, .int .i64 0, .int .i64 0, .string (⟨#[]⟩ : ByteArray)]) (by kernel_rfl)) ?_
            rintro _ _ _ ⟨rfl, rfl, rfl⟩
            refine ⟨_, _, Under.refl, ?_⟩
            refine WA.pure [14] [6, 7] (m := 0) (b' := 32767) (L' := [(6, .pointer (some ⟨b1, 0, none⟩)), (7, .bool false)]) (by kernel_rfl) (NoPanic.then (NoPanic.body)) Under.refl hS (by kernel_rfl) ?_
            refine WA.done hS (by kernel_rfl) ?_
            refine QP.pick [6, 7] ?_
            refine QP.addNil ?_
            refine QP.dropAt 2 ?_
            refine QP.front (i := 1) rfl ?_
            refine QP.front (i := 1) rfl ?_
            refine QP.front (i := 2) rfl ?_
            refine QP.pick [6, 7] ?_
            exact QP.meet ⟨_, Option.some.inj h, none, 0, [], AR480, cR480, CR480, rfl, rfl, rfl, (Ow.nil (kInt .i64) _), HR480⟩
        · rintro _ _ _ ⟨s50, rfl, As50_2_f1, cs50_2_f1, Cs50_2_f1, As50_2_f2, cs50_2_f2, Cs50_2_f2, rfl, rfl, rfl, Hs50_2_f1, Hs50_2_f2⟩
          clear h
          replace h := hk51
          refine WP.ret ?_
          obtain rfl := Option.some.inj h
          refine QP.front (i := 2) rfl ?_
          refine QP.front (i := 2) rfl ?_
          exact QP.returnedM (rs := [.cell 6 41, .tmp 7]) (by kernel_rfl) (ResAll.cons (Res1.box (p := 6) (i := 2) (o := 0) (agg := true) (by rfl) ag41 (by kernel_rfl) (fun h => by cases h) (Nat.le_of_ble_eq_true rfl) (v := .agg #[.int .i64 s50.2.f0, .slice As50_2_f1 s50.2.f1.length cs50_2_f1, .slice As50_2_f2 s50.2.f2.length cs50_2_f2, .int .i64 s50.2.f3, .int .i64 s50.2.f4, .int .i64 s50.2.f5, .int .i64 s50.2.f6, .string s50.2.f7]) (by kernel_rfl)) (ResAll.cons (Res1.tmp (t := 7) (v := .bool s50.1) (by kernel_rfl)) ResAll.nil)) (by kernel_rfl) (fun W hI => ⟨_, _, _, rfl, ⟨As50_2_f1, cs50_2_f1, Cs50_2_f1, As50_2_f2, cs50_2_f2, Cs50_2_f2, rfl, Hs50_2_f1, Hs50_2_f2, rfl, rfl⟩, (hI.less 2 rfl)⟩)
      · replace hc := ne_of_beq_false hc
        rw [if_neg hc] at h
        have hc45 := hc
        clear hc
        refine WP.skip ?_
        refine QP.blockN ?_
        refine QP.next ?_
        refine WP.pick [1, 2, 6, 8, 9, 10] ?_
        refine WP.seq ?_
        refine WP.any (N := 15) (S := [⟨some 53, [8], []⟩, ⟨some 54, [10], []⟩, ⟨some 55, [54], [1]⟩, ⟨some 56, [9, 55], [2]⟩, ⟨some 57, [1, 55], [2]⟩, ⟨some 58, [55, 57], [2, 4]⟩, ⟨some 59, [55, 56, 58], [2, 3, 5]⟩, ⟨some 60, [55, 59], [2, 6]⟩, ⟨some 61, [60], [2, 7]⟩, ⟨some 62, [8, 61], [8]⟩, ⟨some 63, [2, 61], [8]⟩, ⟨some 64, [61, 62, 63], [8, 9, 10]⟩, ⟨some 65, [61, 64], [8, 11]⟩, ⟨none, [6, 53], [0, 11]⟩, ⟨some 7, [65], [0, 1, 2, 3, 4, 5, 6, 7, 8, 9, 10, 11, 12, 13]⟩]) (kw := 13) (G0 := G) (Γ0 := [(b2, .cells #[.int .i64 a0, .slice none 0 0, .slice none 0 0, .int .i64 0, .int .i64 0, .int .i64 0, .int .i64 0, .string (⟨#[]⟩ : ByteArray)] 41 (0, 0))] :: [(b1, .cells #[.int .i64 0, .slice none 0 0, .slice none 0 0, .int .i64 0, .int .i64 0, .int .i64 0, .int .i64 0, .string (⟨#[]⟩ : ByteArray)] 41 (0, 0))] :: Γ) mo (by kernel_rfl) (fun hS => ?_)
        refine WA.pure [1, 2, 3, 4, 5, 6, 7, 8, 9, 10, 11, 12] [6, 8, 65] (m := 3) (b' := 8190) (L' := [(6, .pointer (some ⟨b1, 0, none⟩)), (8, .pointer (some ⟨b2, 0, none⟩)), (65, .bool false)]) (by kernel_rfl) (NoPanic.then (NoPanic.body)) Under.refl hS (by kernel_rfl) ?_
        refine WA.tellD [13] (i := 0) (m := 2) (b' := 8191) (by kernel_rfl) (NoPanic.then (NoPanic.body)) Under.refl hS (by kernel_rfl) (op := .load 41 (.tmp 8)) (ty := 41) (d := some 53) (g := none) (by kernel_rfl) (by kernel_rfl) (by kernel_rfl) (Tells.load_box (i := 0) (b := b2) (o := 0) (agg := true) (by rfl) ag41 (by kernel_rfl) (fun h => by cases h) (Nat.le_of_ble_eq_true rfl) (v := .agg #[.int .i64 a0, .slice none 0 0, .slice none 0 0, .int .i64 0, .int .i64 0, .int .i64 0, .int .i64 0, .string (⟨#[]⟩ : ByteArray)]) (by kernel_rfl)) ?_
        refine WA.opK (i := 13) (kw' := 15) (m := 1) (b' := 16383) (by kernel_rfl) rfl hS (by kernel_rfl) (op := .store 41 (.tmp 6) (.tmp 53)) (ty := 0) (d := none) (g := none) (by kernel_rfl) (by kernel_rfl) (by kernel_rfl) (Does.store_box (i := 1) (b := b1) (o := 0) (v := .agg #[.int .i64 a0, .slice none 0 0, .slice none 0 0, .int .i64 0, .int .i64 0, .int .i64 0, .int .i64 0, .string (⟨#[]⟩ : ByteArray)]) (by rfl) sz41 (by kernel_rfl) (by kernel_rfl) (by kernel_rfl) (Free.zero _) (Nat.le_of_ble_eq_true rfl) (cells' := #[.int .i64 a0, .slice none 0 0, .slice none 0 0, .int .i64 0, .int .i64 0, .int .i64 0, .int .i64 0, .string (⟨#[]⟩ : ByteArray)]) (by kernel_rfl)) ?_
        rintro _ _ _ ⟨rfl, rfl, rfl⟩
        refine ⟨_, _, Under.refl, ?_⟩
        refine WA.pure [14] [6, 7] (m := 0) (b' := 32767) (L' := [(6, .pointer (some ⟨b1, 0, none⟩)), (7, .bool false)]) (by kernel_rfl) (NoPanic.then (NoPanic.body)) Under.refl hS (by kernel_rfl) ?_
        refine WA.done hS (by kernel_rfl) ?_
        refine QP.pick [6, 7] ?_
        refine QP.next ?_
        refine WP.dropAt 0 ?_
        refine WP.ret ?_
        obtain rfl := Option.some.inj h
        refine QP.addNil ?_
        refine QP.addNil ?_
        refine QP.front (i := 2) rfl ?_
        refine QP.front (i := 1) rfl ?_
        refine QP.front (i := 2) rfl ?_
        exact QP.returnedM (rs := [.cell 6 41, .tmp 7]) (by kernel_rfl) (ResAll.cons (Res1.box (p := 6) (i := 2) (o := 0) (agg := true) (by rfl) ag41 (by kernel_rfl) (fun h => by cases h) (Nat.le_of_ble_eq_true rfl) (v := .agg #[.int .i64 a0, .slice none ([] : List Int).length 0, .slice none ([] : List Int).length 0, .int .i64 0, .int .i64 0, .int .i64 0, .int .i64 0, .string (⟨#[]⟩ : ByteArray)]) (by kernel_rfl)) (ResAll.cons (Res1.tmp (t := 7) (v := .bool false) (by kernel_rfl)) ResAll.nil)) (by kernel_rfl) (fun W hI => ⟨_, _, _, rfl, ⟨none, 0, [], none, 0, [], rfl, (Ow.nil (kInt .i64) _), (Ow.nil (kInt .i64) _), rfl, rfl⟩, (hI.less 2 rfl)⟩)

/-! ### grapevine/grapevineref8.Read: function 13 -/
def grapevineref8_Read_l0 (l0 : List Int) (a1 : Int) : Nat → (List T41) → Int → Option ((List T41) × Int)
  | 0, _, _ => none
  | k + 1, y3, y4 => (if y4 < (l0.length : Int) then ((grapevineref6_Next k l0 y4).bind fun t8 => (if (!t8.2.2.2) = true then some (y3, y4) else ((grapevineref8_entry k t8.1 t8.2.1 a1).bind fun t13 => ((if (!t13.2) = true then some true else some (!((t8.1 == 1) == ((y3.length : Int) == 0)))).bind fun s19 => (if s19 = true then some (y3, y4) else (if y3.length + ([t13.1] : List T41).length ≤ 1073741824 then grapevineref8_Read_l0 l0 a1 k (y3 ++ ([t13.1] : List T41)) t8.2.2.1 else none)))))) else some (y3, y4))
def grapevineref8_Read (k : Nat) (l0 : List Int) (a1 : Int) : Option ((List T41) × Int) := ((grapevineref8_Read_l0 l0 a1 k ([] : List T41) 0).bind fun s1 => some (s1.1, s1.2))
set_option maxHeartbeats 4000000 in
theorem grapevineref8_Read_calls {B : World} {G : GMap} {Γ : List Chunk} {W : World} (HT : Tabs B G) (k : Nat) (l0 : List Int) (a1 : Int) (Al0 : Option Addr) (cl0 : Nat) (Hl0 : Rd (kInt .u8) G Al0 cl0 l0) (r : (List T41) × Int) (h : grapevineref8_Read k l0 a1 = some r) (hI : Inv B G (Γ) W) :
    Calls Tryd.prog 13 [.slice Al0 l0.length cl0, .int .i64 a1].toArray W (Ret B (fun v G' Γ' => ∃ (AR0 : Option Addr), ∃ (cR0 : Nat), ∃ (CR0 : Chunk), v = .tuple #[.slice AR0 r.1.length cR0, .int .i64 r.2] ∧ Dp d41 G' AR0 cR0 r.1 CR0 ∧ G = G' ∧ CR0 :: Γ = Γ')) := by
  refine calls_WP (Γ := Γ) (G := G) (B := B) Tryd.func13 rfl (by kernel_rfl) ?_ hI
  clear hI
  unfold grapevineref8_Read at h
  refine WP.seqP [0, 1] (L' := [(0, .slice Al0 l0.length cl0), (1, .int .i64 a1)]) (by kernel_rfl) ?_
  refine WP.seqP [0, 1, 6] (L' := [(0, .slice Al0 l0.length cl0), (1, .int .i64 a1), (6, .slice none 0 0)]) (by kernel_rfl) ?_
  refine WP.seqP [0, 1, 6, 7] (L' := [(0, .slice Al0 l0.length cl0), (1, .int .i64 a1), (6, .slice none 0 0), (7, .int .i64 0)]) (by kernel_rfl) ?_
  rw [Option.bind_eq_some_iff] at h
  obtain ⟨os1, h, hk2⟩ := h
  refine WP.cut (fun L' G' Γ' => ∃ s1 : (List T41) × Int, s1 = os1 ∧ ∃ (As1_1 : Option Addr), ∃ (cs1_1 : Nat), ∃ (Cs1_1 : Chunk), L' = [(6, .slice As1_1 s1.1.length cs1_1), (7, .int .i64 s1.2)] ∧ G = G' ∧ Cs1_1 :: Γ = Γ' ∧ Dp d41 G As1_1 cs1_1 s1.1 Cs1_1) ?_ ?_
  · clear hk2
    refine WP.block ?_
    refine WP.addNil ?_
    refine WP.pick [0, 1, 6, 7] ?_
    refine WP.loopF (fun kn5 L' G' Γ' => ∃ (y3 : List T41), ∃ (y4 : Int), grapevineref8_Read_l0 l0 a1 kn5 y3 y4 = some os1 ∧ ∃ (Ay3 : Option Addr), ∃ (cy3 : Nat), ∃ (Cy3 : Chunk), L' = [(0, .slice Al0 l0.length cl0), (1, .int .i64 a1), (6, .slice Ay3 y3.length cy3), (7, .int .i64 y4)] ∧ G = G' ∧ Cy3 :: Γ = Γ' ∧ Dp d41 G Ay3 cy3 y3 Cy3) ?_ k ⟨([] : List T41), 0, h, none, 0, [], rfl, rfl, rfl, (Dp.nil d41 _)⟩
    clear h
    rintro kn6 _ _ _ ⟨y3, y4, h, Ay3, cy3, Cy3, rfl, rfl, rfl, Hy3⟩
    cases kn6 with
    | zero => exact absurd h (by simp [grapevineref8_Read_l0])
    | succ kn6 =>
      simp only [grapevineref8_Read_l0] at h
      refine WP.seq ?_
      refine WP.seqP [0, 1, 6, 7, 17] (L' := [(0, .slice Al0 l0.length cl0), (1, .int .i64 a1), (6, .slice Ay3 y3.length cy3), (7, .int .i64 y4), (17, .bool (decide (y4 < (l0.length : Int))))]) (by kernel_rfl) ?_
      refine WP.cond (b := decide (y4 < (l0.length : Int))) (by kernel_rfl) (fun hc => ?_) (fun hc => ?_)
      · replace hc := of_decide_eq_true hc
        rw [if_pos hc] at h
        have hc7 := hc
        clear hc
        refine WP.skip ?_
        refine QP.next ?_
        refine WP.pick [0, 1, 6, 7] ?_
        refine WP.block ?_
        refine WP.seqR ?_
        refine WL.pure 0 2 [0, 1, 6, 7, 19, 20] (L' := [(0, .slice Al0 l0.length cl0), (1, .int .i64 a1), (6, .slice Ay3 y3.length cy3), (7, .int .i64 y4), (19, .slice Al0 l0.length cl0), (20, .int .i64 y4)]) (by kernel_rfl) (by decide) ?_
        rw [Option.bind_eq_some_iff] at h
        obtain ⟨t8, ht9, h⟩ := h
        refine WL.op (op := .call { callee := (.value (.func 21)), args := #[(.tmp 19), (.tmp 20)], argTypes := #[22, 3] }) (ty := 47) (d := some 21) (g := none) (by kernel_rfl) (by kernel_rfl) (by kernel_rfl) (Does.call (f := 21) (args := [.slice Al0 l0.length cl0, .int .i64 y4]) (by kernel_rfl) (fun W hI => (grapevineref6_Next_calls kn6 l0 y4 Al0 cl0 Hl0 t8 ht9 hI))) ?_
        rintro _ _ _ ⟨AR101, cR101, CR101, rfl, HR101, rfl, rfl⟩
        refine WL.restQ 3 [0, 1, 6, 7, 8, 9, 10, 11] (L' := [(0, .slice Al0 l0.length cl0), (1, .int .i64 a1), (6, .slice Ay3 y3.length cy3), (7, .int .i64 y4), (8, .int .i64 t8.1), (9, .slice AR101 t8.2.1.length cR101), (10, .int .i64 t8.2.2.1), (11, .bool t8.2.2.2)]) (by kernel_rfl) ?_
        refine WP.seq ?_
        refine WP.seqP [0, 1, 6, 7, 8, 9, 10, 27] (L' := [(0, .slice Al0 l0.length cl0), (1, .int .i64 a1), (6, .slice Ay3 y3.length cy3), (7, .int .i64 y4), (8, .int .i64 t8.1), (9, .slice AR101 t8.2.1.length cR101), (10, .int .i64 t8.2.2.1), (27, .bool (!t8.2.2.2))]) (by kernel_rfl) ?_
        refine WP.cond (b := (!t8.2.2.2)) (by kernel_rfl) (fun hc => ?_) (fun hc => ?_)
        · replace hc := hc
          rw [if_pos hc] at h
          have hc12 := hc
          clear hc
          refine WP.exit ?_
          refine QP.thenE ?_
          refine QP.blockM (by rfl) ?_
          refine QP.thenE ?_
          refine QP.blockE ?_
          refine QP.dropAt 0 ?_
          refine QP.pick [6, 7] ?_
          exact QP.meet ⟨_, Option.some.inj h, Ay3, cy3, Cy3, rfl, rfl, rfl, Hy3⟩
        · replace hc := (Bool.eq_false_iff.1 hc)
          rw [if_neg hc] at h
          have hc12 := hc
          clear hc
          refine WP.skip ?_
          refine QP.next ?_
          refine WP.pick [0, 1, 6, 7, 8, 9, 10] ?_
          refine WP.seqR ?_
          refine WL.pure 0 3 [0, 1, 6, 7, 8, 10, 29, 30, 31] (L' := [(0, .slice Al0 l0.length cl0), (1, .int .i64 a1), (6, .slice Ay3 y3.length cy3), (7, .int .i64 y4), (8, .int .i64 t8.1), (10, .int .i64 t8.2.2.1), (29, .int .i64 t8.1), (30, .slice AR101 t8.2.1.length cR101), (31, .int .i64 a1)]) (by kernel_rfl) (by decide) ?_
          rw [Option.bind_eq_some_iff] at h
          obtain ⟨t13, ht14, h⟩ := h
          refine WL.op (op := .call { callee := (.value (.func 40)), args := #[(.tmp 29), (.tmp 30), (.tmp 31)], argTypes := #[3, 22, 3] }) (ty := 75) (d := some 32) (g := none) (by kernel_rfl) (by kernel_rfl) (by kernel_rfl) (Does.call (Φ := fun v' G' Γ' => ∃ (AR150_0 : Option Addr), ∃ (cR150_0 : Nat), ∃ (CR150_0 : Chunk), ∃ (AR150_1 : Option Addr), ∃ (cR150_1 : Nat), ∃ (CR150_1 : Chunk), v' = .tuple #[.agg #[.int .i64 t13.1.f0, .slice AR150_0 t13.1.f1.length cR150_0, .slice AR150_1 t13.1.f2.length cR150_1, .int .i64 t13.1.f3, .int .i64 t13.1.f4, .int .i64 t13.1.f5, .int .i64 t13.1.f6, .string t13.1.f7], .bool t13.2] ∧ Ow (kInt .i64) G AR150_0 cR150_0 t13.1.f1 CR150_0 ∧ Ow (kInt .i64) G AR150_1 cR150_1 t13.1.f2 CR150_1 ∧ G = G' ∧ CR150_0 :: CR150_1 :: CR101 :: Cy3 :: Γ = Γ') (f := 40) (args := [.int .i64 t8.1, .slice AR101 t8.2.1.length cR101, .int .i64 a1]) (by kernel_rfl) (fun W hI => (Calls.lendN (Φ := fun v' N => ∃ (AR150_0 : Option Addr), ∃ (cR150_0 : Nat), ∃ (CR150_0 : Chunk), ∃ (AR150_1 : Option Addr), ∃ (cR150_1 : Nat), ∃ (CR150_1 : Chunk), v' = .tuple #[.agg #[.int .i64 t13.1.f0, .slice AR150_0 t13.1.f1.length cR150_0, .slice AR150_1 t13.1.f2.length cR150_1, .int .i64 t13.1.f3, .int .i64 t13.1.f4, .int .i64 t13.1.f5, .int .i64 t13.1.f6, .string t13.1.f7], .bool t13.2] ∧ Ow (kInt .i64) G AR150_0 cR150_0 t13.1.f1 CR150_0 ∧ Ow (kInt .i64) G AR150_1 cR150_1 t13.1.f2 CR150_1 ∧ N = [CR150_0, CR150_1]) (H := []) (i := 0) rfl hI (fun _ e l17 nl17 hI => by subst e; exact (((grapevineref8_entry_calls (HT.mono l17) kn6 t8.1 t8.2.1 a1 AR101 cR101 (HR101.rdN l17 nl17) t13 ht14 hI)).mono fun _ _ hr => by obtain ⟨_, _, _, rfl, hd, hI⟩ := hr; obtain ⟨AR150_0, cR150_0, CR150_0, AR150_1, cR150_1, CR150_1, rfl, HR150_0, HR150_1, rfl, rfl⟩ := hd; exact ⟨_, _, _, rfl, ⟨[CR150_0, CR150_1], ⟨AR150_0, cR150_0, CR150_0, AR150_1, cR150_1, CR150_1, rfl, (HR150_0.flat (kInt_flat _)), (HR150_1.flat (kInt_flat _)), rfl⟩, rfl, rfl⟩, hI⟩))).mono fun _ _ hr => by obtain ⟨_, _, _, rfl, ⟨_, hd, rfl, rfl⟩, hI⟩ := hr; obtain ⟨AR150_0, cR150_0, CR150_0, AR150_1, cR150_1, CR150_1, rfl, HR150_0, HR150_1, rfl⟩ := hd; exact ⟨_, _, _, rfl, ⟨AR150_0, cR150_0, CR150_0, AR150_1, cR150_1, CR150_1, rfl, HR150_0, HR150_1, rfl, rfl⟩, hI⟩)) ?_
          rintro _ _ _ ⟨AR150_0, cR150_0, CR150_0, AR150_1, cR150_1, CR150_1, rfl, HR150_0, HR150_1, rfl, rfl⟩
          refine WL.pure 4 7 [0, 1, 6, 7, 8, 10, 33, 34] (L' := [(0, .slice Al0 l0.length cl0), (1, .int .i64 a1), (6, .slice Ay3 y3.length cy3), (7, .int .i64 y4), (8, .int .i64 t8.1), (10, .int .i64 t8.2.2.1), (33, .agg #[.int .i64 t13.1.f0, .slice AR150_0 t13.1.f1.length cR150_0, .slice AR150_1 t13.1.f2.length cR150_1, .int .i64 t13.1.f3, .int .i64 t13.1.f4, .int .i64 t13.1.f5, .int .i64 t13.1.f6, .string t13.1.f7]), (34, .bool t13.2)]) (by kernel_rfl) (by decide) ?_
          refine WL.op (op := .alloc 41) (ty := 0) (d := some 12) (g := none) (by kernel_rfl) (by kernel_rfl) (by kernel_rfl) (Does.new (o := .cells #[.int .i64 0, .slice none 0 0, .slice none 0 0, .int .i64 0, .int .i64 0, .int .i64 0, .int .i64 0, .string (⟨#[]⟩ : ByteArray)] 41 (0, 0)) (v := fun r => .pointer (some ⟨r, 0, none⟩)) (fun r => by kernel_rfl)) ?_
          rintro _ _ _ ⟨b18, rfl, rfl, rfl⟩
          refine WL.op (op := .store 41 (.tmp 12) (.tmp 33)) (ty := 0) (d := none) (g := none) (by kernel_rfl) (by kernel_rfl) (by kernel_rfl) (Does.store_box (i := 0) (b := b18) (o := 0) (v := .agg #[.int .i64 t13.1.f0, .slice AR150_0 t13.1.f1.length cR150_0, .slice AR150_1 t13.1.f2.length cR150_1, .int .i64 t13.1.f3, .int .i64 t13.1.f4, .int .i64 t13.1.f5, .int .i64 t13.1.f6, .string t13.1.f7]) (by rfl) sz41 (by kernel_rfl) (by kernel_rfl) (by kernel_rfl) (Free.zero _) (Nat.le_of_ble_eq_true rfl) (cells' := #[.int .i64 t13.1.f0, .slice AR150_0 t13.1.f1.length cR150_0, .slice AR150_1 t13.1.f2.length cR150_1, .int .i64 t13.1.f3, .int .i64 t13.1.f4, .int .i64 t13.1.f5, .int .i64 t13.1.f6, .string t13.1.f7]) (by kernel_rfl)) ?_
          rintro _ _ _ ⟨rfl, rfl, rfl⟩
          refine WL.restQ 9 [0, 1, 6, 7, 8, 10, 12, 13] (L' := [(0, .slice Al0 l0.length cl0), (1, .int .i64 a1), (6, .slice Ay3 y3.length cy3), (7, .int .i64 y4), (8, .int .i64 t8.1), (10, .int .i64 t8.2.2.1), (12, .pointer (some ⟨b18, 0, none⟩)), (13, .bool t13.2)]) (by kernel_rfl) ?_
          refine WP.dropAt 3 ?_
          refine WP.seq ?_
          rw [Option.bind_eq_some_iff] at h
          obtain ⟨os19, h, hk20⟩ := h
          refine WP.cut (fun L' G' Γ' => ∃ s19 : Bool, s19 = os19 ∧ L' = [(0, .slice Al0 l0.length cl0), (1, .int .i64 a1), (6, .slice Ay3 y3.length cy3), (7, .int .i64 y4), (10, .int .i64 t8.2.2.1), (12, .pointer (some ⟨b18, 0, none⟩)), (44, .bool s19)] ∧ G = G' ∧ [(b18, .cells #[.int .i64 t13.1.f0, .slice AR150_0 t13.1.f1.length cR150_0, .slice AR150_1 t13.1.f2.length cR150_1, .int .i64 t13.1.f3, .int .i64 t13.1.f4, .int .i64 t13.1.f5, .int .i64 t13.1.f6, .string t13.1.f7] 41 (0, 0))] :: CR150_0 :: CR150_1 :: Cy3 :: Γ = Γ') ?_ ?_
          · clear hk20
            refine WP.region ?_
            refine WL.pure 0 3 [0, 1, 6, 7, 8, 10, 12, 37] (L' := [(0, .slice Al0 l0.length cl0), (1, .int .i64 a1), (6, .slice Ay3 y3.length cy3), (7, .int .i64 y4), (8, .int .i64 t8.1), (10, .int .i64 t8.2.2.1), (12, .pointer (some ⟨b18, 0, none⟩)), (37, .bool (!t13.2))]) (by kernel_rfl) (by decide) ?_
            refine WL.split 37 (b := (!t13.2)) (by kernel_rfl) (fun hc => ?_) (fun hc => ?_)
            · replace hc := hc
              rw [if_pos hc] at h
              have hc21 := hc
              clear hc
              refine WL.rest 3 [0, 1, 6, 7, 10, 12, 44] (L' := [(0, .slice Al0 l0.length cl0), (1, .int .i64 a1), (6, .slice Ay3 y3.length cy3), (7, .int .i64 y4), (10, .int .i64 t8.2.2.1), (12, .pointer (some ⟨b18, 0, none⟩)), (44, .bool true)]) (by kernel_rfl) ?_
              refine QP.pick [0, 1, 6, 7, 10, 12, 44] ?_
              exact QP.meet ⟨_, Option.some.inj h, rfl, rfl, rfl⟩
            · replace hc := (Bool.eq_false_iff.1 hc)
              rw [if_neg hc] at h
              have hc21 := hc
              clear hc
              refine WL.rest 3 [0, 1, 6, 7, 10, 12, 44] (L' := [(0, .slice Al0 l0.length cl0), (1, .int .i64 a1), (6, .slice Ay3 y3.length cy3), (7, .int .i64 y4), (10, .int .i64 t8.2.2.1), (12, .pointer (some ⟨b18, 0, none⟩)), (44, .bool (!((t8.1 == 1) == ((y3.length : Int) == 0))))]) (by kernel_rfl) ?_
              refine QP.pick [0, 1, 6, 7, 10, 12, 44] ?_
              exact QP.meet ⟨_, Option.some.inj h, rfl, rfl, rfl⟩
          · rintro _ _ _ ⟨s19, rfl, rfl, rfl, rfl⟩
            clear h
            replace h := hk20
            refine WP.cond (b := s19) (by kernel_rfl) (fun hc => ?_) (fun hc => ?_)
            · replace hc := hc
              rw [if_pos hc] at h
              have hc22 := hc
              clear hc
              refine WP.exit ?_
              refine QP.thenE ?_
              refine QP.blockM (by rfl) ?_
              refine QP.thenE ?_
              refine QP.blockE ?_
              refine QP.dropAt 2 ?_
              refine QP.dropAt 1 ?_
              refine QP.dropAt 0 ?_
              refine QP.pick [6, 7] ?_
              exact QP.meet ⟨_, Option.some.inj h, Ay3, cy3, Cy3, rfl, rfl, rfl, Hy3⟩
            · replace hc := (Bool.eq_false_iff.1 hc)
              rw [if_neg hc] at h
              have hc22 := hc
              clear hc
              refine WP.skip ?_
              refine QP.next ?_
              refine WP.pick [0, 1, 6, 10, 12] ?_
              refine WP.seqR ?_
              refine WL.pure 0 1 [0, 1, 6, 10, 12, 45] (L' := [(0, .slice Al0 l0.length cl0), (1, .int .i64 a1), (6, .slice Ay3 y3.length cy3), (10, .int .i64 t8.2.2.1), (12, .pointer (some ⟨b18, 0, none⟩)), (45, .slice Ay3 y3.length cy3)]) (by kernel_rfl) (by decide) ?_
              refine WL.tell (op := .load 41 (.tmp 12)) (ty := 41) (d := some 46) (g := none) (by kernel_rfl) (by kernel_rfl) (by kernel_rfl) (Tells.load_box (i := 0) (b := b18) (o := 0) (agg := true) (by rfl) ag41 (by kernel_rfl) (fun h => by cases h) (Nat.le_of_ble_eq_true rfl) (v := .agg #[.int .i64 t13.1.f0, .slice AR150_0 t13.1.f1.length cR150_0, .slice AR150_1 t13.1.f2.length cR150_1, .int .i64 t13.1.f3, .int .i64 t13.1.f4, .int .i64 t13.1.f5, .int .i64 t13.1.f6, .string t13.1.f7]) (by kernel_rfl)) ?_
              refine WL.op (op := .buildSlice 25 1 #[(0, (.tmp 46))]) (ty := 25) (d := some 47) (g := none) (by kernel_rfl) (by kernel_rfl) (by kernel_rfl) (Does.new (o := .cells #[.int .i64 t13.1.f0, .slice AR150_0 t13.1.f1.length cR150_0, .slice AR150_1 t13.1.f2.length cR150_1, .int .i64 t13.1.f3, .int .i64 t13.1.f4, .int .i64 t13.1.f5, .int .i64 t13.1.f6, .string t13.1.f7] 41 (0, 0)) (v := fun r => .slice (some ⟨r, 0, none⟩) 1 1) (fun r => by kernel_rfl)) ?_
              rintro _ _ _ ⟨b23, rfl, rfl, rfl⟩
              refine WL.front (i := 3) rfl ?_
              refine WL.front (i := 3) rfl ?_
              refine WL.front (i := 4) rfl ?_
              by_cases hb26 : y3.length + ([t13.1] : List T41).length ≤ 1073741824
              case neg => rw [if_neg hb26] at h; cases h
              rw [if_pos hb26] at h
              refine WL.op (op := .call { callee := (.builtin .append), args := #[(.tmp 45), (.tmp 47)], argTypes := #[25, 25] }) (ty := 25) (d := some 48) (g := none) (by kernel_rfl) (by kernel_rfl) (by kernel_rfl) (Dp.append1L Hy3 [CR150_0, CR150_1] (e := t13.1) (cs := [.int .i64 t13.1.f0, .slice AR150_0 t13.1.f1.length cR150_0, .slice AR150_1 t13.1.f2.length cR150_1, .int .i64 t13.1.f3, .int .i64 t13.1.f4, .int .i64 t13.1.f5, .int .i64 t13.1.f6, .string t13.1.f7]) (show d41.rel t13.1 [.int .i64 t13.1.f0, .slice AR150_0 t13.1.f1.length cR150_0, .slice AR150_1 t13.1.f2.length cR150_1, .int .i64 t13.1.f3, .int .i64 t13.1.f4, .int .i64 t13.1.f5, .int .i64 t13.1.f6, .string t13.1.f7] (List.flatten [CR150_0, CR150_1]) from by rw [show List.flatten [CR150_0, CR150_1] = (([] : Chunk) ++ (CR150_0 ++ (CR150_1 ++ (([] : Chunk) ++ (([] : Chunk) ++ (([] : Chunk) ++ (([] : Chunk) ++ ([] : Chunk)))))))) by simp]; exact ⟨[.int .i64 t13.1.f0], _, ([] : Chunk), (CR150_0 ++ (CR150_1 ++ (([] : Chunk) ++ (([] : Chunk) ++ (([] : Chunk) ++ (([] : Chunk) ++ ([] : Chunk))))))), rfl, rfl, ⟨rfl, rfl⟩, ⟨[.slice AR150_0 t13.1.f1.length cR150_0], _, CR150_0, (CR150_1 ++ (([] : Chunk) ++ (([] : Chunk) ++ (([] : Chunk) ++ (([] : Chunk) ++ ([] : Chunk)))))), rfl, rfl, ⟨AR150_0, cR150_0, rfl, (HR150_0.flat (kInt_flat _))⟩, ⟨[.slice AR150_1 t13.1.f2.length cR150_1], _, CR150_1, (([] : Chunk) ++ (([] : Chunk) ++ (([] : Chunk) ++ (([] : Chunk) ++ ([] : Chunk))))), rfl, rfl, ⟨AR150_1, cR150_1, rfl, (HR150_1.flat (kInt_flat _))⟩, ⟨[.int .i64 t13.1.f3], _, ([] : Chunk), (([] : Chunk) ++ (([] : Chunk) ++ (([] : Chunk) ++ ([] : Chunk)))), rfl, rfl, ⟨rfl, rfl⟩, ⟨[.int .i64 t13.1.f4], _, ([] : Chunk), (([] : Chunk) ++ (([] : Chunk) ++ ([] : Chunk))), rfl, rfl, ⟨rfl, rfl⟩, ⟨[.int .i64 t13.1.f5], _, ([] : Chunk), (([] : Chunk) ++ ([] : Chunk)), rfl, rfl, ⟨rfl, rfl⟩, ⟨[.int .i64 t13.1.f6], _, ([] : Chunk), ([] : Chunk), rfl, rfl, ⟨rfl, rfl⟩, ⟨rfl, rfl⟩⟩⟩⟩⟩⟩⟩⟩) (b := b23) (T := 41) (li := 3) (by kernel_rfl) (by kernel_rfl) rfl sl25 ze41 nt25 (by decide) hb26) ?_
              rintro _ _ _ ⟨rfl, AN27, cN27, CN27, rfl, HN27, rfl⟩
              refine WL.restQ 4 [0, 1, 6, 10] (L' := [(0, .slice Al0 l0.length cl0), (1, .int .i64 a1), (6, .slice AN27 (y3 ++ ([t13.1] : List T41)).length cN27), (10, .int .i64 t8.2.2.1)]) (by kernel_rfl) ?_
              refine WP.dropAt 2 ?_
              refine WP.dropAt 1 ?_
              refine WP.regionP [0, 1, 6, 7] (L' := [(0, .slice Al0 l0.length cl0), (1, .int .i64 a1), (6, .slice AN27 (y3 ++ ([t13.1] : List T41)).length cN27), (7, .int .i64 t8.2.2.1)]) (by kernel_rfl) ?_
              refine QP.blockN ?_
              refine QP.pick [0, 1, 6, 7] ?_
              exact QP.meet ⟨kn6, Nat.lt_succ_self _, (y3 ++ ([t13.1] : List T41)), t8.2.2.1, h, AN27, cN27, CN27, rfl, rfl, rfl, HN27⟩
      · replace hc := of_decide_eq_false hc
        rw [if_neg hc] at h
        have hc7 := hc
        clear hc
        refine WP.exit ?_
        refine QP.thenE ?_
        refine QP.thenE ?_
        refine QP.blockE ?_
        refine QP.pick [6, 7] ?_
        exact QP.meet ⟨_, Option.some.inj h, Ay3, cy3, Cy3, rfl, rfl, rfl, Hy3⟩
  · rintro _ _ _ ⟨s1, rfl, As1_1, cs1_1, Cs1_1, rfl, rfl, rfl, Hs1_1⟩
    clear h
    replace h := hk2
    refine WP.seqP [4, 5] (L' := [(4, .slice As1_1 s1.1.length cs1_1), (5, .int .i64 s1.2)]) (by kernel_rfl) ?_
    refine WP.ret ?_
    obtain rfl := Option.some.inj h
    exact QP.returned [4, 5] [.slice As1_1 s1.1.length cs1_1, .int .i64 s1.2] _ (by kernel_rfl) (by kernel_rfl) (by kernel_rfl) (fun W hI => ⟨_, _, _, rfl, ⟨As1_1, cs1_1, Cs1_1, rfl, Hs1_1, rfl, rfl⟩, hI⟩)

/-! ### grapevine/grapevinelaw0.OverEntries: function 16 -/
def grapevinelaw0_OverEntries_l0 : Nat → Int → (List T41) → Option Unit
  | 0, _, _ => none
  | k + 1, y3, y4 => (if y3 < (y4.length : Int) then (if 0 ≤ y3 ∧ y3 < (y4.length : Int) then ((grapevinelaw0_OverInts k ((y4.getD y3.toNat z41).f1)).bind fun t12 => (if 0 ≤ y3 ∧ y3 < (y4.length : Int) then ((grapevinelaw0_OverInts k ((y4.getD y3.toNat z41).f2)).bind fun t17 => (if 0 ≤ y3 ∧ y3 < (y4.length : Int) then grapevinelaw0_OverEntries_l0 k (IntKind.i64.wrap (y3 + 1)) (y4.set y3.toNat (⟨(-9), ([] : List Int), ([] : List Int), 0, 0, 0, 0, (⟨#[]⟩ : ByteArray)⟩ : T41)) else none)) else none)) else none) else some ())
def grapevinelaw0_OverEntries (k : Nat) (l0 : List T41) : Option Unit := ((grapevinelaw0_OverEntries_l0 k 0 l0).bind fun s1 => some ())
set_option maxHeartbeats 4000000 in
theorem grapevinelaw0_OverEntries_calls {B : World} {G : GMap} {Γ : List Chunk} {W : World} (k : Nat) (l0 : List T41) (Al0 : Option Addr) (cl0 : Nat) (Cl0 : Chunk) (Hl0 : Dp d41 G Al0 cl0 l0 Cl0) (r : Unit) (h : grapevinelaw0_OverEntries k l0 = some r) (hI : Inv B G (Cl0 :: Γ) W) :
    Calls Tryd.prog 16 [.slice Al0 l0.length cl0].toArray W (Ret B (fun v G' Γ' => v = .tuple #[] ∧ G = G' ∧ Γ = Γ')) := by
  refine calls_WP (Γ := Cl0 :: Γ) (G := G) (B := B) Tryd.func16 rfl (by kernel_rfl) ?_ hI
  clear hI
  unfold grapevinelaw0_OverEntries at h
  refine WP.seqP [0, 2] (L' := [(0, .slice Al0 l0.length cl0), (2, .int .i64 0)]) (by kernel_rfl) ?_
  rw [Option.bind_eq_some_iff] at h
  obtain ⟨os1, h, hk2⟩ := h
  refine WP.cutQ (fun L' G' Γ' => ∃ s1 : Unit, s1 = os1 ∧ L' = [] ∧ G = G' ∧ Γ = Γ') ?_ ?_
  · clear hk2
    refine WP.block ?_
    refine WP.pick [0, 2] ?_
    refine WP.loopF (fun kn5 L' G' Γ' => ∃ (y3 : Int), ∃ (y4 : List T41), grapevinelaw0_OverEntries_l0 kn5 y3 y4 = some os1 ∧ ∃ (Ay4 : Option Addr), ∃ (cy4 : Nat), ∃ (Cy4 : Chunk), L' = [(0, .slice Ay4 y4.length cy4), (2, .int .i64 y3)] ∧ G = G' ∧ Cy4 :: Γ = Γ' ∧ Dp d41 G Ay4 cy4 y4 Cy4) ?_ k ⟨0, l0, h, Al0, cl0, Cl0, rfl, rfl, rfl, Hl0⟩
    clear h
    rintro kn6 _ _ _ ⟨y3, y4, h, Ay4, cy4, Cy4, rfl, rfl, rfl, Hy4⟩
    cases kn6 with
    | zero => exact absurd h (by simp [grapevinelaw0_OverEntries_l0])
    | succ kn6 =>
      simp only [grapevinelaw0_OverEntries_l0] at h
      refine WP.seq ?_
      refine WP.seqP [0, 2, 6] (L' := [(0, .slice Ay4 y4.length cy4), (2, .int .i64 y3), (6, .bool (decide (y3 < (y4.length : Int))))]) (by kernel_rfl) ?_
      refine WP.cond (b := decide (y3 < (y4.length : Int))) (by kernel_rfl) (fun hc => ?_) (fun hc => ?_)
      · replace hc := of_decide_eq_true hc
        rw [if_pos hc] at h
        have hc7 := hc
        clear hc
        refine WP.skip ?_
        refine QP.next ?_
        refine WP.pick [0, 2] ?_
        refine WP.seq ?_
        refine WP.block ?_
        refine WP.seqR ?_
        refine WL.pure 0 2 [0, 2, 9, 10] (L' := [(0, .slice Ay4 y4.length cy4), (2, .int .i64 y3), (9, .slice Ay4 y4.length cy4), (10, .int .i64 y3)]) (by kernel_rfl) (by decide) ?_
        by_cases hb8 : 0 ≤ y3 ∧ y3 < (y4.length : Int)
        case neg => rw [if_neg hb8] at h; cases h
        rw [if_pos hb8] at h
        refine WL.tell (op := .indexAddr 25 (.tmp 9) (.tmp 10)) (ty := 0) (d := some 11) (g := none) (by kernel_rfl) (by kernel_rfl) (by kernel_rfl) (Tells.indexAddr (A := Ay4) (n := y4.length) (c := cy4) (k := .i64) (j := y3) (by kernel_rfl) (by kernel_rfl) (Hy4.isSome hb8.1 hb8.2) hb8.1 hb8.2 sl25) ?_
        refine WL.tell (op := .fieldAddr 41 (.tmp 11) 1) (ty := 0) (d := some 12) (g := none) (by kernel_rfl) (by kernel_rfl) (by kernel_rfl) (Tells.fieldElem (m := y3.toNat * 8) (A := Ay4) (by kernel_rfl) (Hy4.isSome hb8.1 hb8.2) fi41_1) ?_
        refine WL.takeD (dk := d41) Hy4 hb8.2 hb8.1 z41 (fun rse9 C0e9 De9 _ _ hOe9 hle9 hcse9 hre9 hcle9 => ?_)
        obtain ⟨_, _, _, _, rfl, rfl, ⟨rfl, rfl⟩, ⟨_, _, Ce9_1, _, rfl, rfl, ⟨Ae9_1, ce9_1, rfl, He9_1⟩, ⟨_, _, Ce9_2, _, rfl, rfl, ⟨Ae9_2, ce9_2, rfl, He9_2⟩, ⟨_, _, _, _, rfl, rfl, ⟨rfl, rfl⟩, ⟨_, _, _, _, rfl, rfl, ⟨rfl, rfl⟩, ⟨_, _, _, _, rfl, rfl, ⟨rfl, rfl⟩, ⟨_, _, _, _, rfl, rfl, ⟨rfl, rfl⟩, ⟨rfl, rfl⟩⟩⟩⟩⟩⟩⟩⟩ := hre9
        have Ho10 : Ow (kInt .i64) G Ae9_1 ce9_1 ((y4.getD y3.toNat z41).f1) Ce9_1 := He9_1.mono (G0.le _)
        have Ho11 : Ow (kInt .i64) G Ae9_2 ce9_2 ((y4.getD y3.toNat z41).f2) Ce9_2 := He9_2.mono (G0.le _)
        refine WL.reperm (Γ' := C0e9 :: De9 :: Ce9_1 :: Ce9_2 :: Γ) (by simp) ?_
        refine WL.tell (op := .load 32 (.tmp 12)) (ty := 32) (d := some 13) (g := none) (by kernel_rfl) (by kernel_rfl) (by kernel_rfl) (Ow.loadRaw hOe9 (i := 0) rfl (agg := false) (off := 1) (sz := 1) hb8.1 hcse9 ag32 (fun _ => rfl) (by decide) (by kernel_rfl) (v := .slice Ae9_1 ((y4.getD y3.toNat z41).f1).length ce9_1) (by kernel_rfl)) ?_
        refine WL.front (i := 2) rfl ?_
        rw [Option.bind_eq_some_iff] at h
        obtain ⟨t12, ht13, h⟩ := h
        refine WL.op (op := .call { callee := (.value (.func 42)), args := #[(.tmp 13)], argTypes := #[32] }) (ty := 0) (d := some 14) (g := none) (by kernel_rfl) (by kernel_rfl) (by kernel_rfl) (Does.call (f := 42) (args := [.slice Ae9_1 ((y4.getD y3.toNat z41).f1).length ce9_1]) (by kernel_rfl) (fun W hI => (grapevinelaw0_OverInts_calls kn6 ((y4.getD y3.toNat z41).f1) Ae9_1 ce9_1 Ce9_1 Ho10 t12 ht13 hI))) ?_
        rintro _ _ _ ⟨rfl, rfl, rfl⟩
        refine WL.restQ 6 [0, 2] (L' := [(0, .slice Ay4 y4.length cy4), (2, .int .i64 y3)]) (by kernel_rfl) ?_
        refine WP.seqR ?_
        refine WL.pure 0 2 [0, 2, 15, 16] (L' := [(0, .slice Ay4 y4.length cy4), (2, .int .i64 y3), (15, .slice Ay4 y4.length cy4), (16, .int .i64 y3)]) (by kernel_rfl) (by decide) ?_
        by_cases hb16 : 0 ≤ y3 ∧ y3 < (y4.length : Int)
        case neg => rw [if_neg hb16] at h; cases h
        rw [if_pos hb16] at h
        refine WL.tell (op := .indexAddr 25 (.tmp 15) (.tmp 16)) (ty := 0) (d := some 17) (g := none) (by kernel_rfl) (by kernel_rfl) (by kernel_rfl) (Tells.indexAddr (A := Ay4) (n := y4.length) (c := cy4) (k := .i64) (j := y3) (by kernel_rfl) (by kernel_rfl) ((Ow.isSome1 hOe9 hle9) hb16.1 hb16.2) hb16.1 hb16.2 sl25) ?_
        refine WL.tell (op := .fieldAddr 41 (.tmp 17) 2) (ty := 0) (d := some 18) (g := none) (by kernel_rfl) (by kernel_rfl) (by kernel_rfl) (Tells.fieldElem (m := y3.toNat * 8) (A := Ay4) (by kernel_rfl) ((Ow.isSome1 hOe9 hle9) hb16.1 hb16.2) fi41_2) ?_
        refine WL.tell (op := .load 32 (.tmp 18)) (ty := 32) (d := some 19) (g := none) (by kernel_rfl) (by kernel_rfl) (by kernel_rfl) (Ow.loadRaw hOe9 (i := 0) rfl (agg := false) (off := 2) (sz := 1) hb16.1 hcse9 ag32 (fun _ => rfl) (by decide) (by kernel_rfl) (v := .slice Ae9_2 ((y4.getD y3.toNat z41).f2).length ce9_2) (by kernel_rfl)) ?_
        refine WL.front (i := 2) rfl ?_
        rw [Option.bind_eq_some_iff] at h
        obtain ⟨t17, ht18, h⟩ := h
        refine WL.op (op := .call { callee := (.value (.func 42)), args := #[(.tmp 19)], argTypes := #[32] }) (ty := 0) (d := some 20) (g := none) (by kernel_rfl) (by kernel_rfl) (by kernel_rfl) (Does.call (f := 42) (args := [.slice Ae9_2 ((y4.getD y3.toNat z41).f2).length ce9_2]) (by kernel_rfl) (fun W hI => (grapevinelaw0_OverInts_calls kn6 ((y4.getD y3.toNat z41).f2) Ae9_2 ce9_2 Ce9_2 Ho11 t17 ht18 hI))) ?_
        rintro _ _ _ ⟨rfl, rfl, rfl⟩
        refine WL.restQ 6 [0, 2] (L' := [(0, .slice Ay4 y4.length cy4), (2, .int .i64 y3)]) (by kernel_rfl) ?_
        refine WP.region ?_
        refine WL.pure 0 3 [0, 2, 21, 22, 23] (L' := [(0, .slice Ay4 y4.length cy4), (2, .int .i64 y3), (21, .slice Ay4 y4.length cy4), (22, .int .i64 y3), (23, .agg #[.int .i64 (-9), .slice none 0 0, .slice none 0 0, .int .i64 0, .int .i64 0, .int .i64 0, .int .i64 0, .string (⟨#[]⟩ : ByteArray)])]) (by kernel_rfl) (by decide) ?_
        by_cases hb21 : 0 ≤ y3 ∧ y3 < (y4.length : Int)
        case neg => rw [if_neg hb21] at h; cases h
        rw [if_pos hb21] at h
        refine WL.tell (op := .indexAddr 25 (.tmp 21) (.tmp 22)) (ty := 0) (d := some 24) (g := none) (by kernel_rfl) (by kernel_rfl) (by kernel_rfl) (Tells.indexAddr (A := Ay4) (n := y4.length) (c := cy4) (k := .i64) (j := y3) (by kernel_rfl) (by kernel_rfl) ((Ow.isSome1 hOe9 hle9) hb21.1 hb21.2) hb21.1 hb21.2 sl25) ?_
        refine WL.front (i := 1) rfl ?_
        refine WL.front (i := 1) rfl ?_
        refine WL.op (op := .store 41 (.tmp 24) (.tmp 23)) (ty := 0) (d := none) (g := none) (by kernel_rfl) (by kernel_rfl) (by kernel_rfl) (Dp.put hOe9 hle9 hcle9 hb21.1 hb21.2 [] (e := (⟨(-9), ([] : List Int), ([] : List Int), 0, 0, 0, 0, (⟨#[]⟩ : ByteArray)⟩ : T41)) (cs := [.int .i64 (-9), .slice none 0 0, .slice none 0 0, .int .i64 0, .int .i64 0, .int .i64 0, .int .i64 0, .string (⟨#[]⟩ : ByteArray)]) (show d41.rel (⟨(-9), ([] : List Int), ([] : List Int), 0, 0, 0, 0, (⟨#[]⟩ : ByteArray)⟩ : T41) [.int .i64 (-9), .slice none 0 0, .slice none 0 0, .int .i64 0, .int .i64 0, .int .i64 0, .int .i64 0, .string (⟨#[]⟩ : ByteArray)] (List.flatten []) from by rw [show List.flatten [] = (([] : Chunk) ++ (([] : Chunk) ++ (([] : Chunk) ++ (([] : Chunk) ++ (([] : Chunk) ++ (([] : Chunk) ++ (([] : Chunk) ++ ([] : Chunk)))))))) by simp]; exact ⟨[.int .i64 (-9)], _, ([] : Chunk), (([] : Chunk) ++ (([] : Chunk) ++ (([] : Chunk) ++ (([] : Chunk) ++ (([] : Chunk) ++ (([] : Chunk) ++ ([] : Chunk))))))), rfl, rfl, ⟨rfl, rfl⟩, ⟨[.slice none 0 0], _, ([] : Chunk), (([] : Chunk) ++ (([] : Chunk) ++ (([] : Chunk) ++ (([] : Chunk) ++ (([] : Chunk) ++ ([] : Chunk)))))), rfl, rfl, ⟨none, 0, rfl, Ow.nil _ _⟩, ⟨[.slice none 0 0], _, ([] : Chunk), (([] : Chunk) ++ (([] : Chunk) ++ (([] : Chunk) ++ (([] : Chunk) ++ ([] : Chunk))))), rfl, rfl, ⟨none, 0, rfl, Ow.nil _ _⟩, ⟨[.int .i64 0], _, ([] : Chunk), (([] : Chunk) ++ (([] : Chunk) ++ (([] : Chunk) ++ ([] : Chunk)))), rfl, rfl, ⟨rfl, rfl⟩, ⟨[.int .i64 0], _, ([] : Chunk), (([] : Chunk) ++ (([] : Chunk) ++ ([] : Chunk))), rfl, rfl, ⟨rfl, rfl⟩, ⟨[.int .i64 0], _, ([] : Chunk), (([] : Chunk) ++ ([] : Chunk)), rfl, rfl, ⟨rfl, rfl⟩, ⟨[.int .i64 0], _, ([] : Chunk), ([] : Chunk), rfl, rfl, ⟨rfl, rfl⟩, ⟨rfl, rfl⟩⟩⟩⟩⟩⟩⟩⟩) (v := .agg #[.int .i64 (-9), .slice none 0 0, .slice none 0 0, .int .i64 0, .int .i64 0, .int .i64 0, .int .i64 0, .string (⟨#[]⟩ : ByteArray)]) rfl (by kernel_rfl) (by kernel_rfl) sz41) ?_
        rintro _ _ _ ⟨rfl, rfl, C22, Ho23, rfl⟩
        refine WL.reput 0 (v := .slice Ay4 y4.length cy4) (v' := .slice Ay4 (y4.set y3.toNat (⟨(-9), ([] : List Int), ([] : List Int), 0, 0, 0, 0, (⟨#[]⟩ : ByteArray)⟩ : T41)).length cy4) (by kernel_rfl) (by rw [List.length_set]) ?_
        refine WL.rest 5 [0, 2] (L' := [(0, .slice Ay4 (y4.set y3.toNat (⟨(-9), ([] : List Int), ([] : List Int), 0, 0, 0, 0, (⟨#[]⟩ : ByteArray)⟩ : T41)).length cy4), (2, .int .i64 y3)]) (by kernel_rfl) ?_
        refine QP.blockN ?_
        refine QP.next ?_
        refine WP.pick [0, 2] ?_
        refine WP.regionP [0, 2] (L' := [(0, .slice Ay4 (y4.set y3.toNat (⟨(-9), ([] : List Int), ([] : List Int), 0, 0, 0, 0, (⟨#[]⟩ : ByteArray)⟩ : T41)).length cy4), (2, .int .i64 (IntKind.i64.wrap (y3 + 1)))]) (by kernel_rfl) ?_
        refine QP.pick [0, 2] ?_
        exact QP.meet ⟨kn6, Nat.lt_succ_self _, (IntKind.i64.wrap (y3 + 1)), (y4.set y3.toNat (⟨(-9), ([] : List Int), ([] : List Int), 0, 0, 0, 0, (⟨#[]⟩ : ByteArray)⟩ : T41)), h, Ay4, cy4, C22, rfl, rfl, rfl, Ho23⟩
      · replace hc := of_decide_eq_false hc
        rw [if_neg hc] at h
        have hc7 := hc
        clear hc
        refine WP.exit ?_
        refine QP.thenE ?_
        refine QP.thenE ?_
        refine QP.blockE ?_
        refine QP.dropAt 0 ?_
        refine QP.pick [] ?_
        exact QP.meet ⟨_, Option.some.inj h, rfl, rfl, rfl⟩
  · rintro _ _ _ ⟨s1, rfl, rfl, rfl, rfl⟩
    clear h
    replace h := hk2
    obtain rfl := Option.some.inj h
    exact QP.returnedN [] [] _ (by kernel_rfl) (by kernel_rfl) (by kernel_rfl) (fun W hI => ⟨_, _, _, rfl, ⟨rfl, rfl, rfl⟩, hI⟩)
end Go.Proofs.YtfocilpnbiciaaaDoor.Gf
