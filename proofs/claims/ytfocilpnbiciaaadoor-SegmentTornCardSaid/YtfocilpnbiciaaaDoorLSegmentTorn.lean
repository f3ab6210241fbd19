/- Walks of Go functions: what each tells, as a plain Lean function, and that the Go code comes to it. Written by gg.py of this repo. -/
import Derived.Test.YtfocilpnbiciaaaDoorT
import Derived.Test.YtfocilpnbiciaaaDoorF1
import Derived.Test.YtfocilpnbiciaaaDoorF5
import Derived.Test.YtfocilpnbiciaaaDoorF6
namespace Go.Proofs.YtfocilpnbiciaaaDoor.Gf
open Go Go.Gg
set_option maxRecDepth 100000
set_option linter.unusedVariables false
set_option linter.unusedSimpArgs false

/-! ### grapevine/grapevinelaw8.SegmentTorn: function 4 -/
def grapevinelaw8_SegmentTorn_l0 (l0 : List T41) (a1 : Int) : Nat → (List Int) → (List Int) → Int → Option (Sum Bool ((List Int) × (List Int)))
  | 0, _, _, _ => none
  | k + 1, y11, y12, y13 => (if y13 < (l0.length : Int) then ((if 0 ≤ y13 ∧ y13 < (l0.length : Int) then ((grapevinelaw8_great (l0.getD y13.toNat z41)).bind fun t22 => (if t22 = true then some true else (if 0 ≤ y13 ∧ y13 < (l0.length : Int) then ((segment_May k (l0.getD y13.toNat z41) a1).bind fun t30 => (if (!t30) = true then some true else (if 0 ≤ y13 ∧ y13 < (l0.length : Int) then some (!((((l0.getD y13.toNat z41).f0) == 1) == (y13 == 0))) else none))) else none))) else none).bind fun s17 => (if s17 = true then ((grapevinelaw8_awake k ).bind fun t39 => some (Sum.inl t39)) else (if 0 ≤ y13 ∧ y13 < (l0.length : Int) then ((segment_Lay k (l0.getD y13.toNat z41)).bind fun t46 => ((if ¬ t46.2 = 0 then some true else some ((t46.1.length : Int) == 0)).bind fun s50 => (if s50 = true then some (Sum.inl false) else (if y11.length + t46.1.length ≤ 1073741824 then (if y12.length + ([((y11 ++ t46.1).length : Int)] : List Int).length ≤ 1073741824 then grapevinelaw8_SegmentTorn_l0 l0 a1 k (y11 ++ t46.1) (y12 ++ ([((y11 ++ t46.1).length : Int)] : List Int)) (IntKind.i64.wrap (y13 + 1)) else none) else none)))) else none))) else some (Sum.inr (y11, y12)))
def grapevinelaw8_SegmentTorn_l1 (s9 : (List Int) × (List Int)) (t75 : Int) : Nat → Int → Int → Int → Option (Int × Int)
  | 0, _, _, _ => none
  | k + 1, y81, y82, y83 => (if y83 < (s9.2.length : Int) then (if 0 ≤ y83 ∧ y83 < (s9.2.length : Int) then (if (s9.2.getD y83.toNat 0) ≤ t75 then (if 0 ≤ y83 ∧ y83 < (s9.2.length : Int) then grapevinelaw8_SegmentTorn_l1 s9 t75 k (IntKind.i64.wrap (y83 + 1)) (s9.2.getD y83.toNat 0) (IntKind.i64.wrap (y83 + 1)) else none) else grapevinelaw8_SegmentTorn_l1 s9 t75 k y81 y82 (IntKind.i64.wrap (y83 + 1))) else none) else some (y81, y82))
def grapevinelaw8_SegmentTorn (k : Nat) (l0 : List T41) (a1 : Int) (a2 : Int) (l3 : List Int) : Option Bool := ((if (l0.length : Int) > 10 then some true else some (decide ((l3.length : Int) > 200))).bind fun s1 => (if s1 = true then ((grapevinelaw8_awake k ).bind fun t5 => some t5) else ((grapevinelaw8_SegmentTorn_l0 l0 a1 k ([] : List Int) ([] : List Int) 0).bind fun os9 => match os9 with | Sum.inl r => some r | Sum.inr s9 => ((segment_Read k s9.1 a1).bind fun t61 => (((grapevinelaw0_SameEntries k t61.1 l0).bind fun t68 => (if (!t68) = true then some true else some (t61.2 != (s9.1.length : Int)))).bind fun s66 => (if s66 = true then some false else ((grapevinelaw0_Low a2 (IntKind.i64.wrap ((s9.1.length : Int) + 1))).bind fun t75 => ((grapevinelaw8_SegmentTorn_l1 s9 t75 k 0 0 0).bind fun s79 => (if 0 ≤ (0 : Int) ∧ (0 : Int) ≤ t75 ∧ t75 ≤ (s9.1.length : Int) then ((segment_Read k (s9.1.take t75.toNat) a1).bind fun t92 => ((if 0 ≤ (0 : Int) ∧ (0 : Int) ≤ s79.1 ∧ s79.1 ≤ (l0.length : Int) then ((grapevinelaw0_SameEntries k t92.1 ((l0.take s79.1.toNat).drop (0 : Int).toNat)).bind fun t101 => (if (!t101) = true then some true else some (t92.2 != s79.2))) else none).bind fun s97 => (if s97 = true then some false else (if 0 ≤ (0 : Int) ∧ (0 : Int) ≤ s79.2 ∧ s79.2 ≤ (s9.1.length : Int) then (if ([] : List Int).length + (s9.1.take s79.2.toNat).length ≤ 1073741824 then (if (([] : List Int) ++ (s9.1.take s79.2.toNat)).length + l3.length ≤ 1073741824 then ((some ((([] : List Int) ++ (s9.1.take s79.2.toNat)) ++ l3)).bind fun v114 => ((grapevineref6_Next k v114 s79.2).bind fun t117 => ((segment_Read k v114 a1).bind fun t122 => ((if t117.2.2.2 = true then ((grapevinelaw8_awake k ).bind fun t130 => some t130) else (if 0 ≤ (0 : Int) ∧ (0 : Int) ≤ s79.1 ∧ s79.1 ≤ (l0.length : Int) then ((grapevinelaw0_SameEntries k t122.1 ((l0.take s79.1.toNat).drop (0 : Int).toNat)).bind fun t136 => (if t136 = true then (if t122.2 = s79.2 then ((grapevinelaw8_awake k ).bind fun t143 => some t143) else some false) else some false)) else none)).bind fun s127 => some s127)))) else none) else none) else none)))) else none)))))))))
set_option maxHeartbeats 4000000 in
theorem grapevinelaw8_SegmentTorn_calls {B : World} {G : GMap} {Γ : List Chunk} {W : World} (HT : Tabs B G) (k : Nat) (l0 : List T41) (a1 : Int) (a2 : Int) (l3 : List Int) (Al0 : Option Addr) (cl0 : Nat) (Hl0 : Rd k41 G Al0 cl0 l0) (Al3 : Option Addr) (cl3 : Nat) (Hl3 : Rd (kInt .u8) G Al3 cl3 l3) (r : Bool) (h : grapevinelaw8_SegmentTorn k l0 a1 a2 l3 = some r) (hI : Inv B G (Γ) W) :
    Calls Tryd.prog 4 [.slice Al0 l0.length cl0, .int .i64 a1, .int .i64 a2, .slice Al3 l3.length cl3].toArray W (Ret B (fun v G' Γ' => v = .bool r ∧ G = G' ∧ Γ = Γ')) := by
  refine calls_WP (Γ := Γ) (G := G) (B := B) Tryd.func4 rfl (by kernel_rfl) ?_ hI
  clear hI
  unfold grapevinelaw8_SegmentTorn at h
  refine WP.seqP [0, 1, 2, 3] (L' := [(0, .slice Al0 l0.length cl0), (1, .int .i64 a1), (2, .int .i64 a2), (3, .slice Al3 l3.length cl3)]) (by kernel_rfl) ?_
  refine WP.seq ?_
  rw [Option.bind_eq_some_iff] at h
  obtain ⟨os1, h, hk2⟩ := h
  refine WP.cut (fun L' G' Γ' => ∃ s1 : Bool, s1 = os1 ∧ L' = [(0, .slice Al0 l0.length cl0), (1, .int .i64 a1), (2, .int .i64 a2), (3, .slice Al3 l3.length cl3), (31, .bool s1)] ∧ G = G' ∧ Γ = Γ') ?_ ?_
  · clear hk2
    refine WP.region ?_
    refine WL.pure 0 4 [0, 1, 2, 3, 27] (L' := [(0, .slice Al0 l0.length cl0), (1, .int .i64 a1), (2, .int .i64 a2), (3, .slice Al3 l3.length cl3), (27, .bool (decide ((l0.length : Int) > 10)))]) (by kernel_rfl) (by decide) ?_
    refine WL.split 27 (b := decide ((l0.length : Int) > 10)) (by kernel_rfl) (fun hc => ?_) (fun hc => ?_)
    · replace hc := of_decide_eq_true hc
      rw [if_pos hc] at h
      have hc3 := hc
      clear hc
      refine WL.rest 4 [0, 1, 2, 3, 31] (L' := [(0, .slice Al0 l0.length cl0), (1, .int .i64 a1), (2, .int .i64 a2), (3, .slice Al3 l3.length cl3), (31, .bool true)]) (by kernel_rfl) ?_
      refine QP.pick [0, 1, 2, 3, 31] ?_
      exact QP.meet ⟨_, Option.some.inj h, rfl, rfl, rfl⟩
    · replace hc := of_decide_eq_false hc
      rw [if_neg hc] at h
      have hc3 := hc
      clear hc
      refine WL.rest 4 [0, 1, 2, 3, 31] (L' := [(0, .slice Al0 l0.length cl0), (1, .int .i64 a1), (2, .int .i64 a2), (3, .slice Al3 l3.length cl3), (31, .bool (decide ((l3.length : Int) > 200)))]) (by kernel_rfl) ?_
      refine QP.pick [0, 1, 2, 3, 31] ?_
      exact QP.meet ⟨_, Option.some.inj h, rfl, rfl, rfl⟩
  · rintro _ _ _ ⟨s1, rfl, rfl, rfl, rfl⟩
    clear h
    replace h := hk2
    refine WP.cond (b := s1) (by kernel_rfl) (fun hc => ?_) (fun hc => ?_)
    · replace hc := hc
      rw [if_pos hc] at h
      have hc4 := hc
      clear hc
      refine WP.seqR ?_
      rw [Option.bind_eq_some_iff] at h
      obtain ⟨t5, ht6, h⟩ := h
      refine WL.op (op := .call { callee := (.value (.func 10)), args := #[], argTypes := #[] }) (ty := 4) (d := some 32) (g := none) (by kernel_rfl) (by kernel_rfl) (by kernel_rfl) (Does.call (f := 10) (args := []) (by kernel_rfl) (fun W hI => (grapevinelaw8_awake_calls HT k   t5 ht6 hI))) ?_
      rintro _ _ _ ⟨rfl, rfl, rfl⟩
      refine WL.restQ 1 [8] (L' := [(8, .bool t5)]) (by kernel_rfl) ?_
      refine WP.ret ?_
      refine QP.thenR ?_
      obtain rfl := Option.some.inj h
      exact QP.returned [8] [.bool t5] _ (by kernel_rfl) (by kernel_rfl) (by kernel_rfl) (fun W hI => ⟨_, _, _, rfl, ⟨rfl, rfl, rfl⟩, hI⟩)
    · replace hc := (Bool.eq_false_iff.1 hc)
      rw [if_neg hc] at h
      have hc4 := hc
      clear hc
      refine WP.skip ?_
      refine QP.next ?_
      refine WP.pick [0, 1, 2, 3] ?_
      refine WP.seqP [0, 1, 2, 3, 9] (L' := [(0, .slice Al0 l0.length cl0), (1, .int .i64 a1), (2, .int .i64 a2), (3, .slice Al3 l3.length cl3), (9, .slice none 0 0)]) (by kernel_rfl) ?_
      refine WP.seqP [0, 1, 2, 3, 9, 10] (L' := [(0, .slice Al0 l0.length cl0), (1, .int .i64 a1), (2, .int .i64 a2), (3, .slice Al3 l3.length cl3), (9, .slice none 0 0), (10, .slice none 0 0)]) (by kernel_rfl) ?_
      refine WP.seq ?_
      refine WP.seqP [0, 1, 2, 3, 9, 10, 11] (L' := [(0, .slice Al0 l0.length cl0), (1, .int .i64 a1), (2, .int .i64 a2), (3, .slice Al3 l3.length cl3), (9, .slice none 0 0), (10, .slice none 0 0), (11, .int .i64 0)]) (by kernel_rfl) ?_
      rw [Option.bind_eq_some_iff] at h
      obtain ⟨os9, h, hk10⟩ := h
      refine WP.cutQ (fun L' G' Γ' => ∃ s9 : (List Int) × (List Int), Sum.inr s9 = os9 ∧ ∃ (As9_1 : Option Addr), ∃ (cs9_1 : Nat), ∃ (Cs9_1 : Chunk), ∃ (As9_2 : Option Addr), ∃ (cs9_2 : Nat), ∃ (Cs9_2 : Chunk), L' = [(0, .slice Al0 l0.length cl0), (1, .int .i64 a1), (2, .int .i64 a2), (3, .slice Al3 l3.length cl3), (9, .slice As9_1 s9.1.length cs9_1), (10, .slice As9_2 s9.2.length cs9_2)] ∧ G = G' ∧ Cs9_1 :: Cs9_2 :: Γ = Γ' ∧ Ow (kInt .u8) G As9_1 cs9_1 s9.1 Cs9_1 ∧ Ow (kInt .i64) G As9_2 cs9_2 s9.2 Cs9_2) ?_ ?_
      · skip
        refine WP.block ?_
        refine WP.addNil ?_
        refine WP.addNil ?_
        refine WP.pick [0, 1, 2, 3, 9, 10, 11] ?_
        refine WP.loopF (fun kn14 L' G' Γ' => ∃ (y11 : List Int), ∃ (y12 : List Int), ∃ (y13 : Int), grapevinelaw8_SegmentTorn_l0 l0 a1 kn14 y11 y12 y13 = some os9 ∧ ∃ (Ay11 : Option Addr), ∃ (cy11 : Nat), ∃ (Cy11 : Chunk), ∃ (Ay12 : Option Addr), ∃ (cy12 : Nat), ∃ (Cy12 : Chunk), L' = [(0, .slice Al0 l0.length cl0), (1, .int .i64 a1), (2, .int .i64 a2), (3, .slice Al3 l3.length cl3), (9, .slice Ay11 y11.length cy11), (10, .slice Ay12 y12.length cy12), (11, .int .i64 y13)] ∧ G = G' ∧ Cy12 :: Cy11 :: Γ = Γ' ∧ Ow (kInt .u8) G Ay11 cy11 y11 Cy11 ∧ Ow (kInt .i64) G Ay12 cy12 y12 Cy12) ?_ k ⟨([] : List Int), ([] : List Int), 0, h, none, 0, [], none, 0, [], rfl, rfl, rfl, (Ow.nil (kInt .u8) _), (Ow.nil (kInt .i64) _)⟩
        clear h
        rintro kn15 _ _ _ ⟨y11, y12, y13, h, Ay11, cy11, Cy11, Ay12, cy12, Cy12, rfl, rfl, rfl, Hy11, Hy12⟩
        cases kn15 with
        | zero => exact absurd h (by simp [grapevinelaw8_SegmentTorn_l0])
        | succ kn15 =>
          simp only [grapevinelaw8_SegmentTorn_l0] at h
          refine WP.seq ?_
          refine WP.seqP [0, 1, 2, 3, 9, 10, 11, 36] (L' := [(0, .slice Al0 l0.length cl0), (1, .int .i64 a1), (2, .int .i64 a2), (3, .slice Al3 l3.length cl3), (9, .slice Ay11 y11.length cy11), (10, .slice Ay12 y12.length cy12), (11, .int .i64 y13), (36, .bool (decide (y13 < (l0.length : Int))))]) (by kernel_rfl) ?_
          refine WP.cond (b := decide (y13 < (l0.length : Int))) (by kernel_rfl) (fun hc => ?_) (fun hc => ?_)
          · replace hc := of_decide_eq_true hc
            rw [if_pos hc] at h
            have hc16 := hc
            clear hc
            refine WP.skip ?_
            refine QP.next ?_
            refine WP.pick [0, 1, 2, 3, 9, 10, 11] ?_
            refine WP.seq ?_
            refine WP.block ?_
            refine WP.seq ?_
            rw [Option.bind_eq_some_iff] at h
            obtain ⟨os17, h, hk18⟩ := h
            refine WP.cut (fun L' G' Γ' => ∃ s17 : Bool, s17 = os17 ∧ L' = [(0, .slice Al0 l0.length cl0), (1, .int .i64 a1), (2, .int .i64 a2), (3, .slice Al3 l3.length cl3), (9, .slice Ay11 y11.length cy11), (10, .slice Ay12 y12.length cy12), (11, .int .i64 y13), (63, .bool s17)] ∧ G = G' ∧ Cy12 :: Cy11 :: Γ = Γ') ?_ ?_
            · clear hk18
              refine WP.region ?_
              refine WL.pure 0 2 [0, 1, 2, 3, 9, 10, 11, 39, 40] (L' := [(0, .slice Al0 l0.length cl0), (1, .int .i64 a1), (2, .int .i64 a2), (3, .slice Al3 l3.length cl3), (9, .slice Ay11 y11.length cy11), (10, .slice Ay12 y12.length cy12), (11, .int .i64 y13), (39, .slice Al0 l0.length cl0), (40, .int .i64 y13)]) (by kernel_rfl) (by decide) ?_
              by_cases hb19 : 0 ≤ y13 ∧ y13 < (l0.length : Int)
              case neg => rw [if_neg hb19] at h; cases h
              rw [if_pos hb19] at h
              refine WL.tell (op := .indexAddr 25 (.tmp 39) (.tmp 40)) (ty := 0) (d := some 41) (g := none) (by kernel_rfl) (by kernel_rfl) (by kernel_rfl) (Tells.indexAddr (A := Al0) (n := l0.length) (c := cl0) (k := .i64) (j := y13) (by kernel_rfl) (by kernel_rfl) (Hl0.isSome hb19.1 hb19.2) hb19.1 hb19.2 sl25) ?_
              refine WL.tellE (op := .load 41 (.tmp 41)) (ty := 41) (d := some 42) (g := none) (by kernel_rfl) (by kernel_rfl) (by kernel_rfl) (Hl0.load (agg := true) hb19.1 hb19.2 z41 ag41 (fun h => by cases h) (by kernel_rfl)) ?_
              rintro _ ⟨_, _, rfl, rfl, ⟨_, _, rfl, ⟨Ae20, ce20, rfl, He20⟩, ⟨_, _, rfl, ⟨Ae21, ce21, rfl, He21⟩, ⟨_, _, rfl, rfl, ⟨_, _, rfl, rfl, ⟨_, _, rfl, rfl, ⟨_, _, rfl, rfl, rfl⟩⟩⟩⟩⟩⟩⟩
              replace He20 : Rd (kInt .i64) G Ae20 ce20 ((l0.getD y13.toNat z41).f1) := He20
              replace He21 : Rd (kInt .i64) G Ae21 ce21 ((l0.getD y13.toNat z41).f2) := He21
              rw [Option.bind_eq_some_iff] at h
              obtain ⟨t22, ht23, h⟩ := h
              refine WL.op (op := .call { callee := (.value (.func 17)), args := #[(.tmp 42)], argTypes := #[41] }) (ty := 4) (d := some 43) (g := none) (by kernel_rfl) (by kernel_rfl) (by kernel_rfl) (Does.call (f := 17) (args := [.agg #[.int .i64 ((l0.getD y13.toNat z41).f0), .slice Ae20 ((l0.getD y13.toNat z41).f1).length ce20, .slice Ae21 ((l0.getD y13.toNat z41).f2).length ce21, .int .i64 ((l0.getD y13.toNat z41).f3), .int .i64 ((l0.getD y13.toNat z41).f4), .int .i64 ((l0.getD y13.toNat z41).f5), .int .i64 ((l0.getD y13.toNat z41).f6), .string ((l0.getD y13.toNat z41).f7)]]) (by kernel_rfl) (fun W hI => (grapevinelaw8_great_calls (l0.getD y13.toNat z41) Ae20 ce20 He20 Ae21 ce21 He21 t22 ht23 hI))) ?_
              rintro _ _ _ ⟨rfl, rfl, rfl⟩
              refine WL.pure 5 6 [0, 1, 2, 3, 9, 10, 11, 44] (L' := [(0, .slice Al0 l0.length cl0), (1, .int .i64 a1), (2, .int .i64 a2), (3, .slice Al3 l3.length cl3), (9, .slice Ay11 y11.length cy11), (10, .slice Ay12 y12.length cy12), (11, .int .i64 y13), (44, .bool t22)]) (by kernel_rfl) (by decide) ?_
              refine WL.split 44 (b := t22) (by kernel_rfl) (fun hc => ?_) (fun hc => ?_)
              · replace hc := hc
                rw [if_pos hc] at h
                have hc26 := hc
                clear hc
                refine WL.rest 6 [0, 1, 2, 3, 9, 10, 11, 63] (L' := [(0, .slice Al0 l0.length cl0), (1, .int .i64 a1), (2, .int .i64 a2), (3, .slice Al3 l3.length cl3), (9, .slice Ay11 y11.length cy11), (10, .slice Ay12 y12.length cy12), (11, .int .i64 y13), (63, .bool true)]) (by kernel_rfl) ?_
                refine QP.pick [0, 1, 2, 3, 9, 10, 11, 63] ?_
                exact QP.meet ⟨_, Option.some.inj h, rfl, rfl, rfl⟩
              · replace hc := (Bool.eq_false_iff.1 hc)
                rw [if_neg hc] at h
                have hc26 := hc
                clear hc
                refine WL.pure 6 8 [0, 1, 2, 3, 9, 10, 11, 44, 45, 46] (L' := [(0, .slice Al0 l0.length cl0), (1, .int .i64 a1), (2, .int .i64 a2), (3, .slice Al3 l3.length cl3), (9, .slice Ay11 y11.length cy11), (10, .slice Ay12 y12.length cy12), (11, .int .i64 y13), (44, .bool false), (45, .slice Al0 l0.length cl0), (46, .int .i64 y13)]) (by kernel_rfl) (by decide) ?_
                by_cases hb27 : 0 ≤ y13 ∧ y13 < (l0.length : Int)
                case neg => rw [if_neg hb27] at h; cases h
                rw [if_pos hb27] at h
                refine WL.tell (op := .indexAddr 25 (.tmp 45) (.tmp 46)) (ty := 0) (d := some 47) (g := some (5, false)) (by kernel_rfl) (by kernel_rfl) (by kernel_rfl) (Tells.indexAddr (A := Al0) (n := l0.length) (c := cl0) (k := .i64) (j := y13) (by kernel_rfl) (by kernel_rfl) (Hl0.isSome hb27.1 hb27.2) hb27.1 hb27.2 sl25) ?_
                refine WL.tellE (op := .load 41 (.tmp 47)) (ty := 41) (d := some 48) (g := some (5, false)) (by kernel_rfl) (by kernel_rfl) (by kernel_rfl) (Hl0.load (agg := true) hb27.1 hb27.2 z41 ag41 (fun h => by cases h) (by kernel_rfl)) ?_
                rintro _ ⟨_, _, rfl, rfl, ⟨_, _, rfl, ⟨Ae28, ce28, rfl, He28⟩, ⟨_, _, rfl, ⟨Ae29, ce29, rfl, He29⟩, ⟨_, _, rfl, rfl, ⟨_, _, rfl, rfl, ⟨_, _, rfl, rfl, ⟨_, _, rfl, rfl, rfl⟩⟩⟩⟩⟩⟩⟩
                replace He28 : Rd (kInt .i64) G Ae28 ce28 ((l0.getD y13.toNat z41).f1) := He28
                replace He29 : Rd (kInt .i64) G Ae29 ce29 ((l0.getD y13.toNat z41).f2) := He29
                refine WL.pure 10 11 [0, 1, 2, 3, 9, 10, 11, 44, 48, 49] (L' := [(0, .slice Al0 l0.length cl0), (1, .int .i64 a1), (2, .int .i64 a2), (3, .slice Al3 l3.length cl3), (9, .slice Ay11 y11.length cy11), (10, .slice Ay12 y12.length cy12), (11, .int .i64 y13), (44, .bool false), (48, .agg #[.int .i64 ((l0.getD y13.toNat z41).f0), .slice Ae28 ((l0.getD y13.toNat z41).f1).length ce28, .slice Ae29 ((l0.getD y13.toNat z41).f2).length ce29, .int .i64 ((l0.getD y13.toNat z41).f3), .int .i64 ((l0.getD y13.toNat z41).f4), .int .i64 ((l0.getD y13.toNat z41).f5), .int .i64 ((l0.getD y13.toNat z41).f6), .string ((l0.getD y13.toNat z41).f7)]), (49, .int .i64 a1)]) (by kernel_rfl) (by decide) ?_
                rw [Option.bind_eq_some_iff] at h
                obtain ⟨t30, ht31, h⟩ := h
                refine WL.op (op := .call { callee := (.value (.func 18)), args := #[(.tmp 48), (.tmp 49)], argTypes := #[41, 3] }) (ty := 4) (d := some 50) (g := some (5, false)) (by kernel_rfl) (by kernel_rfl) (by kernel_rfl) (Does.call (f := 18) (args := [.agg #[.int .i64 ((l0.getD y13.toNat z41).f0), .slice Ae28 ((l0.getD y13.toNat z41).f1).length ce28, .slice Ae29 ((l0.getD y13.toNat z41).f2).length ce29, .int .i64 ((l0.getD y13.toNat z41).f3), .int .i64 ((l0.getD y13.toNat z41).f4), .int .i64 ((l0.getD y13.toNat z41).f5), .int .i64 ((l0.getD y13.toNat z41).f6), .string ((l0.getD y13.toNat z41).f7)], .int .i64 a1]) (by kernel_rfl) (fun W hI => (segment_May_calls HT kn15 (l0.getD y13.toNat z41) a1 Ae28 ce28 He28 Ae29 ce29 He29 t30 ht31 hI))) ?_
                rintro _ _ _ ⟨rfl, rfl, rfl⟩
                refine WL.pure 12 15 [0, 1, 2, 3, 9, 10, 11, 53] (L' := [(0, .slice Al0 l0.length cl0), (1, .int .i64 a1), (2, .int .i64 a2), (3, .slice Al3 l3.length cl3), (9, .slice Ay11 y11.length cy11), (10, .slice Ay12 y12.length cy12), (11, .int .i64 y13), (53, .bool (!t30))]) (by kernel_rfl) (by decide) ?_
                refine WL.split 53 (b := (!t30)) (by kernel_rfl) (fun hc => ?_) (fun hc => ?_)
                · replace hc := hc
                  rw [if_pos hc] at h
                  have hc34 := hc
                  clear hc
                  refine WL.rest 15 [0, 1, 2, 3, 9, 10, 11, 63] (L' := [(0, .slice Al0 l0.length cl0), (1, .int .i64 a1), (2, .int .i64 a2), (3, .slice Al3 l3.length cl3), (9, .slice Ay11 y11.length cy11), (10, .slice Ay12 y12.length cy12), (11, .int .i64 y13), (63, .bool true)]) (by kernel_rfl) ?_
                  refine QP.pick [0, 1, 2, 3, 9, 10, 11, 63] ?_
                  exact QP.meet ⟨_, Option.some.inj h, rfl, rfl, rfl⟩
                · replace hc := (Bool.eq_false_iff.1 hc)
                  rw [if_neg hc] at h
                  have hc34 := hc
                  clear hc
                  refine WL.pure 15 17 [0, 1, 2, 3, 9, 10, 11, 53, 54, 55] (L' := [(0, .slice Al0 l0.length cl0), (1, .int .i64 a1), (2, .int .i64 a2), (3, .slice Al3 l3.length cl3), (9, .slice Ay11 y11.length cy11), (10, .slice Ay12 y12.length cy12), (11, .int .i64 y13), (53, .bool false), (54, .slice Al0 l0.length cl0), (55, .int .i64 y13)]) (by kernel_rfl) (by decide) ?_
                  by_cases hb35 : 0 ≤ y13 ∧ y13 < (l0.length : Int)
                  case neg => rw [if_neg hb35] at h; cases h
                  rw [if_pos hb35] at h
                  refine WL.tell (op := .indexAddr 25 (.tmp 54) (.tmp 55)) (ty := 0) (d := some 56) (g := some (14, false)) (by kernel_rfl) (by kernel_rfl) (by kernel_rfl) (Tells.indexAddr (A := Al0) (n := l0.length) (c := cl0) (k := .i64) (j := y13) (by kernel_rfl) (by kernel_rfl) (Hl0.isSome hb35.1 hb35.2) hb35.1 hb35.2 sl25) ?_
                  refine WL.tell (op := .fieldAddr 41 (.tmp 56) 0) (ty := 0) (d := some 57) (g := some (14, false)) (by kernel_rfl) (by kernel_rfl) (by kernel_rfl) (Tells.fieldElem (m := y13.toNat * 8) (A := Al0) (by kernel_rfl) (Hl0.isSome hb35.1 hb35.2) fi41_0) ?_
                  refine WL.tellE (op := .load 3 (.tmp 57)) (ty := 3) (d := some 58) (g := some (14, false)) (by kernel_rfl) (by kernel_rfl) (by kernel_rfl) (Hl0.loadF (agg := false) (off := 0) hb35.1 hb35.2 z41 ag3 (fun _ => rfl) (by decide) (by kernel_rfl)) ?_
                  rintro _ ⟨_, _, rfl, rfl, ⟨_, _, rfl, ⟨Ae36, ce36, rfl, He36⟩, ⟨_, _, rfl, ⟨Ae37, ce37, rfl, He37⟩, ⟨_, _, rfl, rfl, ⟨_, _, rfl, rfl, ⟨_, _, rfl, rfl, ⟨_, _, rfl, rfl, rfl⟩⟩⟩⟩⟩⟩⟩
                  replace He36 : Rd (kInt .i64) G Ae36 ce36 ((l0.getD y13.toNat z41).f1) := He36
                  replace He37 : Rd (kInt .i64) G Ae37 ce37 ((l0.getD y13.toNat z41).f2) := He37
                  refine WL.rest 20 [0, 1, 2, 3, 9, 10, 11, 63] (L' := [(0, .slice Al0 l0.length cl0), (1, .int .i64 a1), (2, .int .i64 a2), (3, .slice Al3 l3.length cl3), (9, .slice Ay11 y11.length cy11), (10, .slice Ay12 y12.length cy12), (11, .int .i64 y13), (63, .bool (!((((l0.getD y13.toNat z41).f0) == 1) == (y13 == 0))))]) (by kernel_rfl) ?_
                  refine QP.pick [0, 1, 2, 3, 9, 10, 11, 63] ?_
                  exact QP.meet ⟨_, Option.some.inj h, rfl, rfl, rfl⟩
            · rintro _ _ _ ⟨s17, rfl, rfl, rfl, rfl⟩
              clear h
              replace h := hk18
              refine WP.cond (b := s17) (by kernel_rfl) (fun hc => ?_) (fun hc => ?_)
              · replace hc := hc
                rw [if_pos hc] at h
                have hc38 := hc
                clear hc
                refine WP.seqR ?_
                rw [Option.bind_eq_some_iff] at h
                obtain ⟨t39, ht40, h⟩ := h
                refine WL.op (op := .call { callee := (.value (.func 10)), args := #[], argTypes := #[] }) (ty := 4) (d := some 64) (g := none) (by kernel_rfl) (by kernel_rfl) (by kernel_rfl) (Does.call (f := 10) (args := []) (by kernel_rfl) (fun W hI => (grapevinelaw8_awake_calls HT kn15   t39 ht40 hI))) ?_
                rintro _ _ _ ⟨rfl, rfl, rfl⟩
                refine WL.restQ 1 [8] (L' := [(8, .bool t39)]) (by kernel_rfl) ?_
                refine WP.dropAt 1 ?_
                refine WP.dropAt 0 ?_
                refine WP.ret ?_
                refine QP.thenR ?_
                refine QP.blockR ?_
                refine QP.thenR ?_
                refine QP.thenR ?_
                refine QP.blockR ?_
                refine QP.thenR ?_
                refine QP.thenR ?_
                obtain rfl := Option.some.inj h
                obtain rfl := Option.some.inj (show some _ = some _ from hk10)
                exact QP.returned [8] [.bool t39] _ (by kernel_rfl) (by kernel_rfl) (by kernel_rfl) (fun W hI => ⟨_, _, _, rfl, ⟨rfl, rfl, rfl⟩, hI⟩)
              · replace hc := (Bool.eq_false_iff.1 hc)
                rw [if_neg hc] at h
                have hc38 := hc
                clear hc
                refine WP.skip ?_
                refine QP.next ?_
                refine WP.pick [0, 1, 2, 3, 9, 10, 11] ?_
                refine WP.seqR ?_
                refine WL.pure 0 2 [0, 1, 2, 3, 9, 10, 11, 66, 67] (L' := [(0, .slice Al0 l0.length cl0), (1, .int .i64 a1), (2, .int .i64 a2), (3, .slice Al3 l3.length cl3), (9, .slice Ay11 y11.length cy11), (10, .slice Ay12 y12.length cy12), (11, .int .i64 y13), (66, .slice Al0 l0.length cl0), (67, .int .i64 y13)]) (by kernel_rfl) (by decide) ?_
                by_cases hb43 : 0 ≤ y13 ∧ y13 < (l0.length : Int)
                case neg => rw [if_neg hb43] at h; cases h
                rw [if_pos hb43] at h
                refine WL.tell (op := .indexAddr 25 (.tmp 66) (.tmp 67)) (ty := 0) (d := some 68) (g := none) (by kernel_rfl) (by kernel_rfl) (by kernel_rfl) (Tells.indexAddr (A := Al0) (n := l0.length) (c := cl0) (k := .i64) (j := y13) (by kernel_rfl) (by kernel_rfl) (Hl0.isSome hb43.1 hb43.2) hb43.1 hb43.2 sl25) ?_
                refine WL.tellE (op := .load 41 (.tmp 68)) (ty := 41) (d := some 69) (g := none) (by kernel_rfl) (by kernel_rfl) (by kernel_rfl) (Hl0.load (agg := true) hb43.1 hb43.2 z41 ag41 (fun h => by cases h) (by kernel_rfl)) ?_
                rintro _ ⟨_, _, rfl, rfl, ⟨_, _, rfl, ⟨Ae44, ce44, rfl, He44⟩, ⟨_, _, rfl, ⟨Ae45, ce45, rfl, He45⟩, ⟨_, _, rfl, rfl, ⟨_, _, rfl, rfl, ⟨_, _, rfl, rfl, ⟨_, _, rfl, rfl, rfl⟩⟩⟩⟩⟩⟩⟩
                replace He44 : Rd (kInt .i64) G Ae44 ce44 ((l0.getD y13.toNat z41).f1) := He44
                replace He45 : Rd (kInt .i64) G Ae45 ce45 ((l0.getD y13.toNat z41).f2) := He45
                rw [Option.bind_eq_some_iff] at h
                obtain ⟨t46, ht47, h⟩ := h
                refine WL.op (op := .call { callee := (.value (.func 19)), args := #[(.tmp 69)], argTypes := #[41] }) (ty := 44) (d := some 70) (g := none) (by kernel_rfl) (by kernel_rfl) (by kernel_rfl) (Does.call (f := 19) (args := [.agg #[.int .i64 ((l0.getD y13.toNat z41).f0), .slice Ae44 ((l0.getD y13.toNat z41).f1).length ce44, .slice Ae45 ((l0.getD y13.toNat z41).f2).length ce45, .int .i64 ((l0.getD y13.toNat z41).f3), .int .i64 ((l0.getD y13.toNat z41).f4), .int .i64 ((l0.getD y13.toNat z41).f5), .int .i64 ((l0.getD y13.toNat z41).f6), .string ((l0.getD y13.toNat z41).f7)]]) (by kernel_rfl) (fun W hI => (segment_Lay_calls HT kn15 (l0.getD y13.toNat z41) Ae44 ce44 He44 Ae45 ce45 He45 t46 ht47 hI))) ?_
                rintro _ _ _ ⟨AR480, cR480, CR480, rfl, HR480, rfl, rfl⟩
                refine WL.restQ 5 [0, 1, 2, 3, 9, 10, 11, 12, 13] (L' := [(0, .slice Al0 l0.length cl0), (1, .int .i64 a1), (2, .int .i64 a2), (3, .slice Al3 l3.length cl3), (9, .slice Ay11 y11.length cy11), (10, .slice Ay12 y12.length cy12), (11, .int .i64 y13), (12, .slice AR480 t46.1.length cR480), (13, .int .i64 t46.2)]) (by kernel_rfl) ?_
                refine WP.seq ?_
                rw [Option.bind_eq_some_iff] at h
                obtain ⟨os50, h, hk51⟩ := h
                refine WP.cut (fun L' G' Γ' => ∃ s50 : Bool, s50 = os50 ∧ L' = [(0, .slice Al0 l0.length cl0), (1, .int .i64 a1), (2, .int .i64 a2), (3, .slice Al3 l3.length cl3), (9, .slice Ay11 y11.length cy11), (10, .slice Ay12 y12.length cy12), (11, .int .i64 y13), (12, .slice AR480 t46.1.length cR480), (79, .bool s50)] ∧ G = G' ∧ CR480 :: Cy12 :: Cy11 :: Γ = Γ') ?_ ?_
                · clear hk51
                  refine WP.region ?_
                  refine WL.pure 0 3 [0, 1, 2, 3, 9, 10, 11, 12, 75] (L' := [(0, .slice Al0 l0.length cl0), (1, .int .i64 a1), (2, .int .i64 a2), (3, .slice Al3 l3.length cl3), (9, .slice Ay11 y11.length cy11), (10, .slice Ay12 y12.length cy12), (11, .int .i64 y13), (12, .slice AR480 t46.1.length cR480), (75, .bool (t46.2 != 0))]) (by kernel_rfl) (by decide) ?_
                  refine WL.split 75 (b := (t46.2 != 0)) (by kernel_rfl) (fun hc => ?_) (fun hc => ?_)
                  · replace hc := (bne_iff_ne.1 hc)
                    rw [if_pos hc] at h
                    have hc52 := hc
                    clear hc
                    refine WL.rest 3 [0, 1, 2, 3, 9, 10, 11, 12, 79] (L' := [(0, .slice Al0 l0.length cl0), (1, .int .i64 a1), (2, .int .i64 a2), (3, .slice Al3 l3.length cl3), (9, .slice Ay11 y11.length cy11), (10, .slice Ay12 y12.length cy12), (11, .int .i64 y13), (12, .slice AR480 t46.1.length cR480), (79, .bool true)]) (by kernel_rfl) ?_
                    refine QP.pick [0, 1, 2, 3, 9, 10, 11, 12, 79] ?_
                    exact QP.meet ⟨_, Option.some.inj h, rfl, rfl, rfl⟩
                  · replace hc := (not_not_intro (bne_eq_false_iff_eq.1 hc))
                    rw [if_neg hc] at h
                    have hc52 := hc
                    clear hc
                    refine WL.rest 3 [0, 1, 2, 3, 9, 10, 11, 12, 79] (L' := [(0, .slice Al0 l0.length cl0), (1, .int .i64 a1), (2, .int .i64 a2), (3, .slice Al3 l3.length cl3), (9, .slice Ay11 y11.length cy11), (10, .slice Ay12 y12.length cy12), (11, .int .i64 y13), (12, .slice AR480 t46.1.length cR480), (79, .bool ((t46.1.length : Int) == 0))]) (by kernel_rfl) ?_
                    refine QP.pick [0, 1, 2, 3, 9, 10, 11, 12, 79] ?_
                    exact QP.meet ⟨_, Option.some.inj h, rfl, rfl, rfl⟩
                · rintro _ _ _ ⟨s50, rfl, rfl, rfl, rfl⟩
                  clear h
                  replace h := hk51
                  refine WP.cond (b := s50) (by kernel_rfl) (fun hc => ?_) (fun hc => ?_)
                  · replace hc := hc
                    rw [if_pos hc] at h
                    have hc53 := hc
                    clear hc
                    refine WP.seqP [8] (L' := [(8, .bool false)]) (by kernel_rfl) ?_
                    refine WP.dropAt 2 ?_
                    refine WP.dropAt 1 ?_
                    refine WP.dropAt 0 ?_
                    refine WP.ret ?_
                    refine QP.thenR ?_
                    refine QP.blockR ?_
                    refine QP.thenR ?_
                    refine QP.thenR ?_
                    refine QP.blockR ?_
                    refine QP.thenR ?_
                    refine QP.thenR ?_
                    obtain rfl := Option.some.inj h
                    obtain rfl := Option.some.inj (show some _ = some _ from hk10)
                    exact QP.returned [8] [.bool false] _ (by kernel_rfl) (by kernel_rfl) (by kernel_rfl) (fun W hI => ⟨_, _, _, rfl, ⟨rfl, rfl, rfl⟩, hI⟩)
                  · replace hc := (Bool.eq_false_iff.1 hc)
                    rw [if_neg hc] at h
                    have hc53 := hc
                    clear hc
                    refine WP.skip ?_
                    refine QP.next ?_
                    refine WP.pick [0, 1, 2, 3, 9, 10, 11, 12] ?_
                    refine WP.seqR ?_
                    refine WL.pure 0 2 [0, 1, 2, 3, 9, 10, 11, 80, 81] (L' := [(0, .slice Al0 l0.length cl0), (1, .int .i64 a1), (2, .int .i64 a2), (3, .slice Al3 l3.length cl3), (9, .slice Ay11 y11.length cy11), (10, .slice Ay12 y12.length cy12), (11, .int .i64 y13), (80, .slice Ay11 y11.length cy11), (81, .slice AR480 t46.1.length cR480)]) (by kernel_rfl) (by decide) ?_
                    by_cases hb54 : y11.length + t46.1.length ≤ 1073741824
                    case neg => rw [if_neg hb54] at h; cases h
                    rw [if_pos hb54] at h
                    refine WL.op (op := .call { callee := (.builtin .append), args := #[(.tmp 80), (.tmp 81)], argTypes := #[22, 22] }) (ty := 22) (d := some 82) (g := none) (by kernel_rfl) (by kernel_rfl) (by kernel_rfl) (Ow.append (ys := t46.1) (v := .slice AR480 t46.1.length cR480) Hy11 (i := 2) rfl (by kernel_rfl) (by kernel_rfl) (HR480.src (i := 0) rfl) sl22 ze5 nt22 (by decide) hb54) ?_
                    rintro _ _ _ ⟨rfl, AN55, cN55, CN55, rfl, HN55, rfl⟩
                    refine WL.restQ 3 [0, 1, 2, 3, 9, 10, 11] (L' := [(0, .slice Al0 l0.length cl0), (1, .int .i64 a1), (2, .int .i64 a2), (3, .slice Al3 l3.length cl3), (9, .slice AN55 (y11 ++ t46.1).length cN55), (10, .slice Ay12 y12.length cy12), (11, .int .i64 y13)]) (by kernel_rfl) ?_
                    refine WP.dropAt 0 ?_
                    refine WP.region ?_
                    refine WL.pure 0 3 [0, 1, 2, 3, 9, 10, 11, 83, 85] (L' := [(0, .slice Al0 l0.length cl0), (1, .int .i64 a1), (2, .int .i64 a2), (3, .slice Al3 l3.length cl3), (9, .slice AN55 (y11 ++ t46.1).length cN55), (10, .slice Ay12 y12.length cy12), (11, .int .i64 y13), (83, .slice Ay12 y12.length cy12), (85, .int .i64 ((y11 ++ t46.1).length : Int))]) (by kernel_rfl) (by decide) ?_
                    refine WL.op (op := .buildSlice 32 1 #[(0, (.tmp 85))]) (ty := 32) (d := some 86) (g := none) (by kernel_rfl) (by kernel_rfl) (by kernel_rfl) (Does.new (o := .cells #[.int .i64 ((y11 ++ t46.1).length : Int)] 3 (0, 0)) (v := fun r => .slice (some ⟨r, 0, none⟩) 1 1) (fun r => by kernel_rfl)) ?_
                    rintro _ _ _ ⟨b56, rfl, rfl, rfl⟩
                    have Ho58 : Ow (kInt .i64) G (some ⟨b56, 0, none⟩) 1 ([((y11 ++ t46.1).length : Int)] : List Int) [(b56, .cells #[.int .i64 ((y11 ++ t46.1).length : Int)] 3 (0, 0))] := Ow.lit (kd := (kInt .i64)) (G := G) (b := b56) (T := 3) (xs := ([((y11 ++ t46.1).length : Int)] : List Int)) (cs := [.int .i64 ((y11 ++ t46.1).length : Int)]) (.cons (x := ((y11 ++ t46.1).length : Int)) (cs := [.int .i64 ((y11 ++ t46.1).length : Int)]) (by exact rfl) .nil)
                    by_cases hb59 : y12.length + ([((y11 ++ t46.1).length : Int)] : List Int).length ≤ 1073741824
                    case neg => rw [if_neg hb59] at h; cases h
                    rw [if_pos hb59] at h
                    refine WL.op (op := .call { callee := (.builtin .append), args := #[(.tmp 83), (.tmp 86)], argTypes := #[32, 32] }) (ty := 32) (d := some 87) (g := none) (by kernel_rfl) (by kernel_rfl) (by kernel_rfl) (Ow.append (ys := ([((y11 ++ t46.1).length : Int)] : List Int)) (v := .slice (some ⟨b56, 0, none⟩) ([((y11 ++ t46.1).length : Int)] : List Int).length 1) Hy12 (i := 1) rfl (by kernel_rfl) (by kernel_rfl) (Ho58.src (i := 0) rfl) sl32 ze3 nt32 (by decide) hb59) ?_
                    rintro _ _ _ ⟨rfl, AN60, cN60, CN60, rfl, HN60, rfl⟩
                    refine WL.rest 5 [0, 1, 2, 3, 9, 10, 11] (L' := [(0, .slice Al0 l0.length cl0), (1, .int .i64 a1), (2, .int .i64 a2), (3, .slice Al3 l3.length cl3), (9, .slice AN55 (y11 ++ t46.1).length cN55), (10, .slice AN60 (y12 ++ ([((y11 ++ t46.1).length : Int)] : List Int)).length cN60), (11, .int .i64 y13)]) (by kernel_rfl) ?_
                    refine QP.blockN ?_
                    refine QP.next ?_
                    refine WP.pick [0, 1, 2, 3, 9, 10, 11] ?_
                    refine WP.regionP [0, 1, 2, 3, 9, 10, 11] (L' := [(0, .slice Al0 l0.length cl0), (1, .int .i64 a1), (2, .int .i64 a2), (3, .slice Al3 l3.length cl3), (9, .slice AN55 (y11 ++ t46.1).length cN55), (10, .slice AN60 (y12 ++ ([((y11 ++ t46.1).length : Int)] : List Int)).length cN60), (11, .int .i64 (IntKind.i64.wrap (y13 + 1)))]) (by kernel_rfl) ?_
                    refine QP.dropAt 0 ?_
                    refine QP.front (i := 1) rfl ?_
                    refine QP.front (i := 1) rfl ?_
                    refine QP.pick [0, 1, 2, 3, 9, 10, 11] ?_
                    exact QP.meet ⟨kn15, Nat.lt_succ_self _, (y11 ++ t46.1), (y12 ++ ([((y11 ++ t46.1).length : Int)] : List Int)), (IntKind.i64.wrap (y13 + 1)), h, AN55, cN55, CN55, AN60, cN60, CN60, rfl, rfl, rfl, HN55, HN60⟩
          · replace hc := of_decide_eq_false hc
            rw [if_neg hc] at h
            have hc16 := hc
            clear hc
            refine WP.exit ?_
            refine QP.thenE ?_
            refine QP.thenE ?_
            refine QP.blockE ?_
            refine QP.front (i := 1) rfl ?_
            refine QP.pick [0, 1, 2, 3, 9, 10] ?_
            exact QP.meet ⟨_, Option.some.inj h, Ay11, cy11, Cy11, Ay12, cy12, Cy12, rfl, rfl, rfl, Hy11, Hy12⟩
      · rintro _ _ _ ⟨s9, rfl, As9_1, cs9_1, Cs9_1, As9_2, cs9_2, Cs9_2, rfl, rfl, rfl, Hs9_1, Hs9_2⟩
        clear h
        replace h := hk10
        refine QP.next ?_
        refine WP.pick [0, 1, 2, 3, 9, 10] ?_
        refine WP.seqR ?_
        refine WL.pure 0 2 [0, 1, 2, 3, 9, 10, 89, 90] (L' := [(0, .slice Al0 l0.length cl0), (1, .int .i64 a1), (2, .int .i64 a2), (3, .slice Al3 l3.length cl3), (9, .slice As9_1 s9.1.length cs9_1), (10, .slice As9_2 s9.2.length cs9_2), (89, .slice As9_1 s9.1.length cs9_1), (90, .int .i64 a1)]) (by kernel_rfl) (by decide) ?_
        rw [Option.bind_eq_some_iff] at h
        obtain ⟨t61, ht62, h⟩ := h
        refine WL.op (op := .call { callee := (.value (.func 12)), args := #[(.tmp 89), (.tmp 90)], argTypes := #[22, 3] }) (ty := 26) (d := some 91) (g := none) (by kernel_rfl) (by kernel_rfl) (by kernel_rfl) (Does.call (Φ := fun v' G' Γ' => ∃ (AR630 : Option Addr), ∃ (cR630 : Nat), ∃ (CR630 : Chunk), v' = .tuple #[.slice AR630 t61.1.length cR630, .int .i64 t61.2] ∧ Dp d41 G AR630 cR630 t61.1 CR630 ∧ G = G' ∧ CR630 :: Cs9_1 :: Cs9_2 :: Γ = Γ') (f := 12) (args := [.slice As9_1 s9.1.length cs9_1, .int .i64 a1]) (by kernel_rfl) (fun W hI => (Calls.lendN (Φ := fun v' N => ∃ (AR630 : Option Addr), ∃ (cR630 : Nat), ∃ (CR630 : Chunk), v' = .tuple #[.slice AR630 t61.1.length cR630, .int .i64 t61.2] ∧ Dp d41 G AR630 cR630 t61.1 CR630 ∧ N = [CR630]) (H := []) (i := 0) rfl hI (fun _ e l65 nl65 hI => by subst e; exact (((segment_Read_calls (HT.mono l65) k s9.1 a1 As9_1 cs9_1 (Hs9_1.rdN l65 nl65) t61 ht62 hI)).mono fun _ _ hr => by obtain ⟨_, _, _, rfl, hd, hI⟩ := hr; obtain ⟨AR630, cR630, CR630, rfl, HR630, rfl, rfl⟩ := hd; exact ⟨_, _, _, rfl, ⟨[CR630], ⟨AR630, cR630, CR630, rfl, (HR630.flat (kInt_flat .i64)), rfl⟩, rfl, rfl⟩, hI⟩))).mono fun _ _ hr => by obtain ⟨_, _, _, rfl, ⟨_, hd, rfl, rfl⟩, hI⟩ := hr; obtain ⟨AR630, cR630, CR630, rfl, HR630, rfl⟩ := hd; exact ⟨_, _, _, rfl, ⟨AR630, cR630, CR630, rfl, HR630, rfl, rfl⟩, hI⟩)) ?_
        rintro _ _ _ ⟨AR630, cR630, CR630, rfl, HR630, rfl, rfl⟩
        refine WL.restQ 3 [0, 1, 2, 3, 9, 10, 14, 15] (L' := [(0, .slice Al0 l0.length cl0), (1, .int .i64 a1), (2, .int .i64 a2), (3, .slice Al3 l3.length cl3), (9, .slice As9_1 s9.1.length cs9_1), (10, .slice As9_2 s9.2.length cs9_2), (14, .slice AR630 t61.1.length cR630), (15, .int .i64 t61.2)]) (by kernel_rfl) ?_
        refine WP.seq ?_
        rw [Option.bind_eq_some_iff] at h
        obtain ⟨os66, h, hk67⟩ := h
        refine WP.cut (fun L' G' Γ' => ∃ s66 : Bool, s66 = os66 ∧ L' = [(0, .slice Al0 l0.length cl0), (1, .int .i64 a1), (2, .int .i64 a2), (3, .slice Al3 l3.length cl3), (9, .slice As9_1 s9.1.length cs9_1), (10, .slice As9_2 s9.2.length cs9_2), (103, .bool s66)] ∧ G = G' ∧ Cs9_1 :: Cs9_2 :: Γ = Γ') ?_ ?_
        · clear hk67
          refine WP.region ?_
          refine WL.pure 0 2 [0, 1, 2, 3, 9, 10, 15, 94, 95] (L' := [(0, .slice Al0 l0.length cl0), (1, .int .i64 a1), (2, .int .i64 a2), (3, .slice Al3 l3.length cl3), (9, .slice As9_1 s9.1.length cs9_1), (10, .slice As9_2 s9.2.length cs9_2), (15, .int .i64 t61.2), (94, .slice AR630 t61.1.length cR630), (95, .slice Al0 l0.length cl0)]) (by kernel_rfl) (by decide) ?_
          rw [Option.bind_eq_some_iff] at h
          obtain ⟨t68, ht69, h⟩ := h
          refine WL.op (op := .call { callee := (.value (.func 14)), args := #[(.tmp 94), (.tmp 95)], argTypes := #[25, 25] }) (ty := 4) (d := some 96) (g := none) (by kernel_rfl) (by kernel_rfl) (by kernel_rfl) (Does.call (Φ := fun v' G' Γ' => v' = .bool t68 ∧ G = G' ∧ CR630 :: Cs9_1 :: Cs9_2 :: Γ = Γ') (f := 14) (args := [.slice AR630 t61.1.length cR630, .slice Al0 l0.length cl0]) (by kernel_rfl) (fun W hI => (Calls.lendN (Φ := fun v' N => v' = .bool t68 ∧ N = []) (H := []) (i := 0) rfl hI (fun _ e l72 nl72 hI => by subst e; exact (((grapevinelaw0_SameEntries_calls k t61.1 l0 AR630 cR630 (HR630.rdN l72 nl72) Al0 cl0 (Hl0.mono l72) t68 ht69 hI)).mono fun _ _ hr => by obtain ⟨_, _, _, rfl, hd, hI⟩ := hr; obtain ⟨rfl, rfl, rfl⟩ := hd; exact ⟨_, _, _, rfl, ⟨[], ⟨rfl, rfl⟩, rfl, rfl⟩, hI⟩))).mono fun _ _ hr => by obtain ⟨_, _, _, rfl, ⟨_, hd, rfl, rfl⟩, hI⟩ := hr; obtain ⟨rfl, rfl⟩ := hd; exact ⟨_, _, _, rfl, ⟨rfl, rfl, rfl⟩, hI⟩)) ?_
          rintro _ _ _ ⟨rfl, rfl, rfl⟩
          refine WL.pure 3 5 [0, 1, 2, 3, 9, 10, 15, 98] (L' := [(0, .slice Al0 l0.length cl0), (1, .int .i64 a1), (2, .int .i64 a2), (3, .slice Al3 l3.length cl3), (9, .slice As9_1 s9.1.length cs9_1), (10, .slice As9_2 s9.2.length cs9_2), (15, .int .i64 t61.2), (98, .bool (!t68))]) (by kernel_rfl) (by decide) ?_
          refine WL.split 98 (b := (!t68)) (by kernel_rfl) (fun hc => ?_) (fun hc => ?_)
          · replace hc := hc
            rw [if_pos hc] at h
            have hc73 := hc
            clear hc
            refine WL.rest 5 [0, 1, 2, 3, 9, 10, 103] (L' := [(0, .slice Al0 l0.length cl0), (1, .int .i64 a1), (2, .int .i64 a2), (3, .slice Al3 l3.length cl3), (9, .slice As9_1 s9.1.length cs9_1), (10, .slice As9_2 s9.2.length cs9_2), (103, .bool true)]) (by kernel_rfl) ?_
            refine QP.dropAt 0 ?_
            refine QP.pick [0, 1, 2, 3, 9, 10, 103] ?_
            exact QP.meet ⟨_, Option.some.inj h, rfl, rfl, rfl⟩
          · replace hc := (Bool.eq_false_iff.1 hc)
            rw [if_neg hc] at h
            have hc73 := hc
            clear hc
            refine WL.rest 5 [0, 1, 2, 3, 9, 10, 103] (L' := [(0, .slice Al0 l0.length cl0), (1, .int .i64 a1), (2, .int .i64 a2), (3, .slice Al3 l3.length cl3), (9, .slice As9_1 s9.1.length cs9_1), (10, .slice As9_2 s9.2.length cs9_2), (103, .bool (t61.2 != (s9.1.length : Int)))]) (by kernel_rfl) ?_
            refine QP.dropAt 0 ?_
            refine QP.pick [0, 1, 2, 3, 9, 10, 103] ?_
            exact QP.meet ⟨_, Option.some.inj h, rfl, rfl, rfl⟩
        · rintro _ _ _ ⟨s66, rfl, rfl, rfl, rfl⟩
          clear h
          replace h := hk67
          refine WP.cond (b := s66) (by kernel_rfl) (fun hc => ?_) (fun hc => ?_)
          · replace hc := hc
            rw [if_pos hc] at h
            have hc74 := hc
            clear hc
            refine WP.seqP [8] (L' := [(8, .bool false)]) (by kernel_rfl) ?_
            refine WP.dropAt 1 ?_
            refine WP.dropAt 0 ?_
            refine WP.ret ?_
            refine QP.thenR ?_
            obtain rfl := Option.some.inj h
            exact QP.returned [8] [.bool false] _ (by kernel_rfl) (by kernel_rfl) (by kernel_rfl) (fun W hI => ⟨_, _, _, rfl, ⟨rfl, rfl, rfl⟩, hI⟩)
          · replace hc := (Bool.eq_false_iff.1 hc)
            rw [if_neg hc] at h
            have hc74 := hc
            clear hc
            refine WP.skip ?_
            refine QP.next ?_
            refine WP.pick [0, 1, 2, 3, 9, 10] ?_
            refine WP.seqR ?_
            refine WL.pure 0 4 [0, 1, 2, 3, 9, 10, 104, 107] (L' := [(0, .slice Al0 l0.length cl0), (1, .int .i64 a1), (2, .int .i64 a2), (3, .slice Al3 l3.length cl3), (9, .slice As9_1 s9.1.length cs9_1), (10, .slice As9_2 s9.2.length cs9_2), (104, .int .i64 a2), (107, .int .i64 (IntKind.i64.wrap ((s9.1.length : Int) + 1)))]) (by kernel_rfl) (by decide) ?_
            rw [Option.bind_eq_some_iff] at h
            obtain ⟨t75, ht76, h⟩ := h
            refine WL.op (op := .call { callee := (.value (.func 20)), args := #[(.tmp 104), (.tmp 107)], argTypes := #[3, 3] }) (ty := 3) (d := some 108) (g := none) (by kernel_rfl) (by kernel_rfl) (by kernel_rfl) (Does.call (f := 20) (args := [.int .i64 a2, .int .i64 (IntKind.i64.wrap ((s9.1.length : Int) + 1))]) (by kernel_rfl) (fun W hI => (grapevinelaw0_Low_calls a2 (IntKind.i64.wrap ((s9.1.length : Int) + 1))  t75 ht76 hI))) ?_
            rintro _ _ _ ⟨rfl, rfl, rfl⟩
            refine WL.restQ 5 [0, 1, 2, 3, 9, 10] (L' := [(0, .slice Al0 l0.length cl0), (1, .int .i64 a1), (2, .int .i64 t75), (3, .slice Al3 l3.length cl3), (9, .slice As9_1 s9.1.length cs9_1), (10, .slice As9_2 s9.2.length cs9_2)]) (by kernel_rfl) ?_
            refine WP.seqP [0, 1, 2, 3, 9, 10, 16, 17] (L' := [(0, .slice Al0 l0.length cl0), (1, .int .i64 a1), (2, .int .i64 t75), (3, .slice Al3 l3.length cl3), (9, .slice As9_1 s9.1.length cs9_1), (10, .slice As9_2 s9.2.length cs9_2), (16, .int .i64 0), (17, .int .i64 0)]) (by kernel_rfl) ?_
            refine WP.seq ?_
            refine WP.seqP [0, 1, 2, 3, 9, 10, 16, 17, 18] (L' := [(0, .slice Al0 l0.length cl0), (1, .int .i64 a1), (2, .int .i64 t75), (3, .slice Al3 l3.length cl3), (9, .slice As9_1 s9.1.length cs9_1), (10, .slice As9_2 s9.2.length cs9_2), (16, .int .i64 0), (17, .int .i64 0), (18, .int .i64 0)]) (by kernel_rfl) ?_
            rw [Option.bind_eq_some_iff] at h
            obtain ⟨os79, h, hk80⟩ := h
            refine WP.cutQ (fun L' G' Γ' => ∃ s79 : Int × Int, s79 = os79 ∧ L' = [(0, .slice Al0 l0.length cl0), (1, .int .i64 a1), (2, .int .i64 t75), (3, .slice Al3 l3.length cl3), (9, .slice As9_1 s9.1.length cs9_1), (16, .int .i64 s79.1), (17, .int .i64 s79.2)] ∧ G = G' ∧ Cs9_1 :: Γ = Γ') ?_ ?_
            · clear hk80
              refine WP.block ?_
              refine WP.pick [0, 1, 2, 3, 9, 10, 16, 17, 18] ?_
              refine WP.loopF (fun kn84 L' G' Γ' => ∃ (y81 : Int), ∃ (y82 : Int), ∃ (y83 : Int), grapevinelaw8_SegmentTorn_l1 s9 t75 kn84 y81 y82 y83 = some os79 ∧ L' = [(0, .slice Al0 l0.length cl0), (1, .int .i64 a1), (2, .int .i64 t75), (3, .slice Al3 l3.length cl3), (9, .slice As9_1 s9.1.length cs9_1), (10, .slice As9_2 s9.2.length cs9_2), (16, .int .i64 y81), (17, .int .i64 y82), (18, .int .i64 y83)] ∧ G = G' ∧ Cs9_1 :: Cs9_2 :: Γ = Γ') ?_ k ⟨0, 0, 0, h, rfl, rfl, rfl⟩
              clear h
              rintro kn85 _ _ _ ⟨y81, y82, y83, h, rfl, rfl, rfl⟩
              cases kn85 with
              | zero => exact absurd h (by simp [grapevinelaw8_SegmentTorn_l1])
              | succ kn85 =>
                simp only [grapevinelaw8_SegmentTorn_l1] at h
                refine WP.seq ?_
                refine WP.seqP [0, 1, 2, 3, 9, 10, 16, 17, 18, 112] (L' := [(0, .slice Al0 l0.length cl0), (1, .int .i64 a1), (2, .int .i64 t75), (3, .slice Al3 l3.length cl3), (9, .slice As9_1 s9.1.length cs9_1), (10, .slice As9_2 s9.2.length cs9_2), (16, .int .i64 y81), (17, .int .i64 y82), (18, .int .i64 y83), (112, .bool (decide (y83 < (s9.2.length : Int))))]) (by kernel_rfl) ?_
                refine WP.cond (b := decide (y83 < (s9.2.length : Int))) (by kernel_rfl) (fun hc => ?_) (fun hc => ?_)
                · replace hc := of_decide_eq_true hc
                  rw [if_pos hc] at h
                  have hc86 := hc
                  clear hc
                  refine WP.skip ?_
                  refine QP.next ?_
                  refine WP.pick [0, 1, 2, 3, 9, 10, 16, 17, 18] ?_
                  refine WP.seq ?_
                  refine WP.block ?_
                  refine WP.seqR ?_
                  refine WL.pure 0 2 [0, 1, 2, 3, 9, 10, 16, 17, 18, 115, 116] (L' := [(0, .slice Al0 l0.length cl0), (1, .int .i64 a1), (2, .int .i64 t75), (3, .slice Al3 l3.length cl3), (9, .slice As9_1 s9.1.length cs9_1), (10, .slice As9_2 s9.2.length cs9_2), (16, .int .i64 y81), (17, .int .i64 y82), (18, .int .i64 y83), (115, .slice As9_2 s9.2.length cs9_2), (116, .int .i64 y83)]) (by kernel_rfl) (by decide) ?_
                  by_cases hb87 : 0 ≤ y83 ∧ y83 < (s9.2.length : Int)
                  case neg => rw [if_neg hb87] at h; cases h
                  rw [if_pos hb87] at h
                  refine WL.tell (op := .indexAddr 32 (.tmp 115) (.tmp 116)) (ty := 0) (d := some 117) (g := none) (by kernel_rfl) (by kernel_rfl) (by kernel_rfl) (Tells.indexAddr (A := As9_2) (n := s9.2.length) (c := cs9_2) (k := .i64) (j := y83) (by kernel_rfl) (by kernel_rfl) (Hs9_2.isSome hb87.1 hb87.2) hb87.1 hb87.2 sl32) ?_
                  refine WL.tellE (op := .load 3 (.tmp 117)) (ty := 3) (d := some 118) (g := none) (by kernel_rfl) (by kernel_rfl) (by kernel_rfl) (Hs9_2.load (i := 1) rfl (agg := false) hb87.1 hb87.2 0 ag3 (fun _ => rfl) (by kernel_rfl)) ?_
                  rintro _ rfl
                  refine WL.restQ 4 [0, 1, 2, 3, 9, 10, 16, 17, 18, 120] (L' := [(0, .slice Al0 l0.length cl0), (1, .int .i64 a1), (2, .int .i64 t75), (3, .slice Al3 l3.length cl3), (9, .slice As9_1 s9.1.length cs9_1), (10, .slice As9_2 s9.2.length cs9_2), (16, .int .i64 y81), (17, .int .i64 y82), (18, .int .i64 y83), (120, .bool (decide ((s9.2.getD y83.toNat 0) ≤ t75)))]) (by kernel_rfl) ?_
                  refine WP.cond (b := decide ((s9.2.getD y83.toNat 0) ≤ t75)) (by kernel_rfl) (fun hc => ?_) (fun hc => ?_)
                  · replace hc := of_decide_eq_true hc
                    rw [if_pos hc] at h
                    have hc88 := hc
                    clear hc
                    skip
                    refine WP.any (N := 8) (S := [⟨some 121, [18], []⟩, ⟨some 122, [121], [0]⟩, ⟨some 123, [10], []⟩, ⟨some 124, [18], []⟩, ⟨some 125, [123, 124], [2, 3]⟩, ⟨some 126, [125], [4]⟩, ⟨some 16, [122], [0, 1]⟩, ⟨some 17, [126], [0, 1, 2, 3, 4, 5, 6]⟩]) (kw := 8) (G0 := G) (Γ0 := Cs9_1 :: Cs9_2 :: Γ) mo (by kernel_rfl) (fun hS => ?_)
                    refine WA.pure [0, 1, 2, 3, 6] [0, 1, 2, 3, 9, 10, 16, 17, 18, 123, 124] (m := 3) (b' := 79) (L' := [(0, .slice Al0 l0.length cl0), (1, .int .i64 a1), (2, .int .i64 t75), (3, .slice Al3 l3.length cl3), (9, .slice As9_1 s9.1.length cs9_1), (10, .slice As9_2 s9.2.length cs9_2), (16, .int .i64 (IntKind.i64.wrap (y83 + 1))), (17, .int .i64 y82), (18, .int .i64 y83), (123, .slice As9_2 s9.2.length cs9_2), (124, .int .i64 y83)]) (by kernel_rfl) (NoPanic.block (NoPanic.then (NoPanic.then (NoPanic.block (NoPanic.then (NoPanic.then (NoPanic.body))))))) Under.refl hS (by kernel_rfl) ?_
                    by_cases hb89 : 0 ≤ y83 ∧ y83 < (s9.2.length : Int)
                    case neg => rw [if_neg hb89] at h; cases h
                    rw [if_pos hb89] at h
                    refine WA.tellD [] (i := 4) (m := 2) (b' := 95) (by kernel_rfl) (NoPanic.block (NoPanic.then (NoPanic.then (NoPanic.block (NoPanic.then (NoPanic.then (NoPanic.body))))))) Under.refl hS (by kernel_rfl) (op := .indexAddr 32 (.tmp 123) (.tmp 124)) (ty := 0) (d := some 125) (g := none) (by kernel_rfl) (by kernel_rfl) (by kernel_rfl) (Tells.indexAddr (A := As9_2) (n := s9.2.length) (c := cs9_2) (k := .i64) (j := y83) (by kernel_rfl) (by kernel_rfl) (Hs9_2.isSome hb89.1 hb89.2) hb89.1 hb89.2 sl32) ?_
                    refine WA.tellDE [] (i := 5) (m := 1) (b' := 127) (by kernel_rfl) (NoPanic.block (NoPanic.then (NoPanic.then (NoPanic.block (NoPanic.then (NoPanic.then (NoPanic.body))))))) Under.refl hS (by kernel_rfl) (op := .load 3 (.tmp 125)) (ty := 3) (d := some 126) (g := none) (by kernel_rfl) (by kernel_rfl) (by kernel_rfl) (Hs9_2.load (i := 1) rfl (agg := false) hb89.1 hb89.2 0 ag3 (fun _ => rfl) (by kernel_rfl)) ?_
                    rintro _ rfl
                    refine WA.pure [7] [0, 1, 2, 3, 9, 10, 16, 17, 18] (m := 0) (b' := 255) (L' := [(0, .slice Al0 l0.length cl0), (1, .int .i64 a1), (2, .int .i64 t75), (3, .slice Al3 l3.length cl3), (9, .slice As9_1 s9.1.length cs9_1), (10, .slice As9_2 s9.2.length cs9_2), (16, .int .i64 (IntKind.i64.wrap (y83 + 1))), (17, .int .i64 (s9.2.getD y83.toNat 0)), (18, .int .i64 y83)]) (by kernel_rfl) (NoPanic.block (NoPanic.then (NoPanic.then (NoPanic.block (NoPanic.then (NoPanic.then (NoPanic.body))))))) Under.refl hS (by kernel_rfl) ?_
                    refine WA.done hS (by kernel_rfl) ?_
                    refine QP.pick [0, 1, 2, 3, 9, 10, 16, 17, 18] ?_
                    refine QP.blockN ?_
                    refine QP.next ?_
                    refine WP.pick [0, 1, 2, 3, 9, 10, 16, 17, 18] ?_
                    refine WP.regionP [0, 1, 2, 3, 9, 10, 16, 17, 18] (L' := [(0, .slice Al0 l0.length cl0), (1, .int .i64 a1), (2, .int .i64 t75), (3, .slice Al3 l3.length cl3), (9, .slice As9_1 s9.1.length cs9_1), (10, .slice As9_2 s9.2.length cs9_2), (16, .int .i64 (IntKind.i64.wrap (y83 + 1))), (17, .int .i64 (s9.2.getD y83.toNat 0)), (18, .int .i64 (IntKind.i64.wrap (y83 + 1)))]) (by kernel_rfl) ?_
                    refine QP.front (i := 1) rfl ?_
                    refine QP.front (i := 1) rfl ?_
                    refine QP.pick [0, 1, 2, 3, 9, 10, 16, 17, 18] ?_
                    exact QP.meet ⟨kn85, Nat.lt_succ_self _, (IntKind.i64.wrap (y83 + 1)), (s9.2.getD y83.toNat 0), (IntKind.i64.wrap (y83 + 1)), h, rfl, rfl, rfl⟩
                  · replace hc := of_decide_eq_false hc
                    rw [if_neg hc] at h
                    have hc88 := hc
                    clear hc
                    refine WP.skip ?_
                    refine QP.blockN ?_
                    refine QP.next ?_
                    refine WP.pick [0, 1, 2, 3, 9, 10, 16, 17, 18] ?_
                    refine WP.regionP [0, 1, 2, 3, 9, 10, 16, 17, 18] (L' := [(0, .slice Al0 l0.length cl0), (1, .int .i64 a1), (2, .int .i64 t75), (3, .slice Al3 l3.length cl3), (9, .slice As9_1 s9.1.length cs9_1), (10, .slice As9_2 s9.2.length cs9_2), (16, .int .i64 y81), (17, .int .i64 y82), (18, .int .i64 (IntKind.i64.wrap (y83 + 1)))]) (by kernel_rfl) ?_
                    refine QP.front (i := 1) rfl ?_
                    refine QP.front (i := 1) rfl ?_
                    refine QP.pick [0, 1, 2, 3, 9, 10, 16, 17, 18] ?_
                    exact QP.meet ⟨kn85, Nat.lt_succ_self _, y81, y82, (IntKind.i64.wrap (y83 + 1)), h, rfl, rfl, rfl⟩
                · replace hc := of_decide_eq_false hc
                  rw [if_neg hc] at h
                  have hc86 := hc
                  clear hc
                  refine WP.exit ?_
                  refine QP.thenE ?_
                  refine QP.thenE ?_
                  refine QP.blockE ?_
                  refine QP.dropAt 1 ?_
                  refine QP.pick [0, 1, 2, 3, 9, 16, 17] ?_
                  exact QP.meet ⟨_, Option.some.inj h, rfl, rfl, rfl⟩
            · rintro _ _ _ ⟨s79, rfl, rfl, rfl, rfl⟩
              clear h
              replace h := hk80
              refine QP.next ?_
              refine WP.pick [0, 1, 2, 3, 9, 16, 17] ?_
              refine WP.seqR ?_
              refine WL.pure 0 2 [0, 1, 3, 9, 16, 17, 128, 129] (L' := [(0, .slice Al0 l0.length cl0), (1, .int .i64 a1), (3, .slice Al3 l3.length cl3), (9, .slice As9_1 s9.1.length cs9_1), (16, .int .i64 s79.1), (17, .int .i64 s79.2), (128, .slice As9_1 s9.1.length cs9_1), (129, .int .i64 t75)]) (by kernel_rfl) (by decide) ?_
              by_cases hb90 : 0 ≤ (0 : Int) ∧ (0 : Int) ≤ t75 ∧ t75 ≤ (s9.1.length : Int)
              case neg => rw [if_neg hb90] at h; cases h
              rw [if_pos hb90] at h
              refine WL.tellW (op := .slice 22 (.tmp 128) none (some (.tmp 129)) none) (ty := 22) (d := some 130) (g := none) (by kernel_rfl) (by kernel_rfl) (by kernel_rfl) (Ow.sliceT Hs9_1 (l := 0) (h := t75) (by kernel_rfl) rfl ⟨.i64, by kernel_rfl⟩ rfl hb90.2.1 hb90.2.2 sl22) ?_
              have Ho91 := Hs9_1.cut t75.toNat
              refine WL.pure 3 4 [0, 1, 3, 9, 16, 17, 130, 131] (L' := [(0, .slice Al0 l0.length cl0), (1, .int .i64 a1), (3, .slice Al3 l3.length cl3), (9, .slice As9_1 s9.1.length cs9_1), (16, .int .i64 s79.1), (17, .int .i64 s79.2), (130, .slice As9_1 (s9.1.take t75.toNat).length cs9_1), (131, .int .i64 a1)]) (by kernel_rfl) (by decide) ?_
              rw [Option.bind_eq_some_iff] at h
              obtain ⟨t92, ht93, h⟩ := h
              refine WL.op (op := .call { callee := (.value (.func 12)), args := #[(.tmp 130), (.tmp 131)], argTypes := #[22, 3] }) (ty := 26) (d := some 132) (g := none) (by kernel_rfl) (by kernel_rfl) (by kernel_rfl) (Does.call (Φ := fun v' G' Γ' => ∃ (AR940 : Option Addr), ∃ (cR940 : Nat), ∃ (CR940 : Chunk), v' = .tuple #[.slice AR940 t92.1.length cR940, .int .i64 t92.2] ∧ Dp d41 G AR940 cR940 t92.1 CR940 ∧ G = G' ∧ CR940 :: Cs9_1 :: Γ = Γ') (f := 12) (args := [.slice As9_1 (s9.1.take t75.toNat).length cs9_1, .int .i64 a1]) (by kernel_rfl) (fun W hI => (Calls.lendN (Φ := fun v' N => ∃ (AR940 : Option Addr), ∃ (cR940 : Nat), ∃ (CR940 : Chunk), v' = .tuple #[.slice AR940 t92.1.length cR940, .int .i64 t92.2] ∧ Dp d41 G AR940 cR940 t92.1 CR940 ∧ N = [CR940]) (H := []) (i := 0) rfl hI (fun _ e l96 nl96 hI => by subst e; exact (((segment_Read_calls (HT.mono l96) k (s9.1.take t75.toNat) a1 As9_1 cs9_1 (Ho91.rdN l96 nl96) t92 ht93 hI)).mono fun _ _ hr => by obtain ⟨_, _, _, rfl, hd, hI⟩ := hr; obtain ⟨AR940, cR940, CR940, rfl, HR940, rfl, rfl⟩ := hd; exact ⟨_, _, _, rfl, ⟨[CR940], ⟨AR940, cR940, CR940, rfl, (HR940.flat (kInt_flat .i64)), rfl⟩, rfl, rfl⟩, hI⟩))).mono fun _ _ hr => by obtain ⟨_, _, _, rfl, ⟨_, hd, rfl, rfl⟩, hI⟩ := hr; obtain ⟨AR940, cR940, CR940, rfl, HR940, rfl⟩ := hd; exact ⟨_, _, _, rfl, ⟨AR940, cR940, CR940, rfl, HR940, rfl, rfl⟩, hI⟩)) ?_
              rintro _ _ _ ⟨AR940, cR940, CR940, rfl, HR940, rfl, rfl⟩
              refine WL.restQ 5 [0, 1, 3, 9, 14, 15, 16, 17] (L' := [(0, .slice Al0 l0.length cl0), (1, .int .i64 a1), (3, .slice Al3 l3.length cl3), (9, .slice As9_1 s9.1.length cs9_1), (14, .slice AR940 t92.1.length cR940), (15, .int .i64 t92.2), (16, .int .i64 s79.1), (17, .int .i64 s79.2)]) (by kernel_rfl) ?_
              refine WP.seq ?_
              rw [Option.bind_eq_some_iff] at h
              obtain ⟨os97, h, hk98⟩ := h
              refine WP.cut (fun L' G' Γ' => ∃ s97 : Bool, s97 = os97 ∧ L' = [(0, .slice Al0 l0.length cl0), (1, .int .i64 a1), (3, .slice Al3 l3.length cl3), (9, .slice As9_1 s9.1.length cs9_1), (16, .int .i64 s79.1), (17, .int .i64 s79.2), (145, .bool s97)] ∧ G = G' ∧ Cs9_1 :: Γ = Γ') ?_ ?_
              · clear hk98
                refine WP.region ?_
                refine WL.pure 0 3 [0, 1, 3, 9, 15, 16, 17, 135, 136, 137] (L' := [(0, .slice Al0 l0.length cl0), (1, .int .i64 a1), (3, .slice Al3 l3.length cl3), (9, .slice As9_1 s9.1.length cs9_1), (15, .int .i64 t92.2), (16, .int .i64 s79.1), (17, .int .i64 s79.2), (135, .slice AR940 t92.1.length cR940), (136, .slice Al0 l0.length cl0), (137, .int .i64 s79.1)]) (by kernel_rfl) (by decide) ?_
                by_cases hb99 : 0 ≤ (0 : Int) ∧ (0 : Int) ≤ s79.1 ∧ s79.1 ≤ (l0.length : Int)
                case neg => rw [if_neg hb99] at h; cases h
                rw [if_pos hb99] at h
                refine WL.tellS (op := .slice 25 (.tmp 136) none (some (.tmp 137)) none) (ty := 25) (d := some 138) (g := none) (by kernel_rfl) (by kernel_rfl) (by kernel_rfl) (Hl0.slice (l := 0) (h := s79.1) (by kernel_rfl) rfl ⟨.i64, by kernel_rfl⟩ hb99.1 hb99.2.1 hb99.2.2 sl25) ?_
                rintro AP100 cP100 HP100
                rw [Option.bind_eq_some_iff] at h
                obtain ⟨t101, ht102, h⟩ := h
                refine WL.op (op := .call { callee := (.value (.func 14)), args := #[(.tmp 135), (.tmp 138)], argTypes := #[25, 25] }) (ty := 4) (d := some 139) (g := none) (by kernel_rfl) (by kernel_rfl) (by kernel_rfl) (Does.call (Φ := fun v' G' Γ' => v' = .bool t101 ∧ G = G' ∧ CR940 :: Cs9_1 :: Γ = Γ') (f := 14) (args := [.slice AR940 t92.1.length cR940, .slice AP100 ((l0.take s79.1.toNat).drop (0 : Int).toNat).length cP100]) (by kernel_rfl) (fun W hI => (Calls.lendN (Φ := fun v' N => v' = .bool t101 ∧ N = []) (H := []) (i := 0) rfl hI (fun _ e l105 nl105 hI => by subst e; exact (((grapevinelaw0_SameEntries_calls k t92.1 ((l0.take s79.1.toNat).drop (0 : Int).toNat) AR940 cR940 (HR940.rdN l105 nl105) AP100 cP100 (HP100.mono l105) t101 ht102 hI)).mono fun _ _ hr => by obtain ⟨_, _, _, rfl, hd, hI⟩ := hr; obtain ⟨rfl, rfl, rfl⟩ := hd; exact ⟨_, _, _, rfl, ⟨[], ⟨rfl, rfl⟩, rfl, rfl⟩, hI⟩))).mono fun _ _ hr => by obtain ⟨_, _, _, rfl, ⟨_, hd, rfl, rfl⟩, hI⟩ := hr; obtain ⟨rfl, rfl⟩ := hd; exact ⟨_, _, _, rfl, ⟨rfl, rfl, rfl⟩, hI⟩)) ?_
                rintro _ _ _ ⟨rfl, rfl, rfl⟩
                refine WL.pure 5 7 [0, 1, 3, 9, 15, 16, 17, 141] (L' := [(0, .slice Al0 l0.length cl0), (1, .int .i64 a1), (3, .slice Al3 l3.length cl3), (9, .slice As9_1 s9.1.length cs9_1), (15, .int .i64 t92.2), (16, .int .i64 s79.1), (17, .int .i64 s79.2), (141, .bool (!t101))]) (by kernel_rfl) (by decide) ?_
                refine WL.split 141 (b := (!t101)) (by kernel_rfl) (fun hc => ?_) (fun hc => ?_)
                · replace hc := hc
                  rw [if_pos hc] at h
                  have hc106 := hc
                  clear hc
                  refine WL.rest 7 [0, 1, 3, 9, 16, 17, 145] (L' := [(0, .slice Al0 l0.length cl0), (1, .int .i64 a1), (3, .slice Al3 l3.length cl3), (9, .slice As9_1 s9.1.length cs9_1), (16, .int .i64 s79.1), (17, .int .i64 s79.2), (145, .bool true)]) (by kernel_rfl) ?_
                  refine QP.dropAt 0 ?_
                  refine QP.pick [0, 1, 3, 9, 16, 17, 145] ?_
                  exact QP.meet ⟨_, Option.some.inj h, rfl, rfl, rfl⟩
                · replace hc := (Bool.eq_false_iff.1 hc)
                  rw [if_neg hc] at h
                  have hc106 := hc
                  clear hc
                  refine WL.rest 7 [0, 1, 3, 9, 16, 17, 145] (L' := [(0, .slice Al0 l0.length cl0), (1, .int .i64 a1), (3, .slice Al3 l3.length cl3), (9, .slice As9_1 s9.1.length cs9_1), (16, .int .i64 s79.1), (17, .int .i64 s79.2), (145, .bool (t92.2 != s79.2))]) (by kernel_rfl) ?_
                  refine QP.dropAt 0 ?_
                  refine QP.pick [0, 1, 3, 9, 16, 17, 145] ?_
                  exact QP.meet ⟨_, Option.some.inj h, rfl, rfl, rfl⟩
              · rintro _ _ _ ⟨s97, rfl, rfl, rfl, rfl⟩
                clear h
                replace h := hk98
                refine WP.cond (b := s97) (by kernel_rfl) (fun hc => ?_) (fun hc => ?_)
                · replace hc := hc
                  rw [if_pos hc] at h
                  have hc107 := hc
                  clear hc
                  refine WP.seqP [8] (L' := [(8, .bool false)]) (by kernel_rfl) ?_
                  refine WP.dropAt 0 ?_
                  refine WP.ret ?_
                  refine QP.thenR ?_
                  obtain rfl := Option.some.inj h
                  exact QP.returned [8] [.bool false] _ (by kernel_rfl) (by kernel_rfl) (by kernel_rfl) (fun W hI => ⟨_, _, _, rfl, ⟨rfl, rfl, rfl⟩, hI⟩)
                · replace hc := (Bool.eq_false_iff.1 hc)
                  rw [if_neg hc] at h
                  have hc107 := hc
                  clear hc
                  refine WP.skip ?_
                  refine QP.next ?_
                  refine WP.pick [0, 1, 3, 9, 16, 17] ?_
                  refine WP.seqR ?_
                  refine WL.pure 0 2 [0, 1, 3, 16, 17, 146, 147] (L' := [(0, .slice Al0 l0.length cl0), (1, .int .i64 a1), (3, .slice Al3 l3.length cl3), (16, .int .i64 s79.1), (17, .int .i64 s79.2), (146, .slice As9_1 s9.1.length cs9_1), (147, .int .i64 s79.2)]) (by kernel_rfl) (by decide) ?_
                  by_cases hb108 : 0 ≤ (0 : Int) ∧ (0 : Int) ≤ s79.2 ∧ s79.2 ≤ (s9.1.length : Int)
                  case neg => rw [if_neg hb108] at h; cases h
                  rw [if_pos hb108] at h
                  refine WL.tellW (op := .slice 22 (.tmp 146) none (some (.tmp 147)) none) (ty := 22) (d := some 148) (g := none) (by kernel_rfl) (by kernel_rfl) (by kernel_rfl) (Ow.sliceT Hs9_1 (l := 0) (h := s79.2) (by kernel_rfl) rfl ⟨.i64, by kernel_rfl⟩ rfl hb108.2.1 hb108.2.2 sl22) ?_
                  have Ho109 := Hs9_1.cut s79.2.toNat
                  refine WL.addNil ?_
                  by_cases hb110 : ([] : List Int).length + (s9.1.take s79.2.toNat).length ≤ 1073741824
                  case neg => rw [if_neg hb110] at h; cases h
                  rw [if_pos hb110] at h
                  refine WL.op (op := .call { callee := (.builtin .append), args := #[(.const (.slice none 0 0)), (.tmp 148)], argTypes := #[22, 22] }) (ty := 22) (d := some 149) (g := none) (by kernel_rfl) (by kernel_rfl) (by kernel_rfl) (Ow.append (ys := (s9.1.take s79.2.toNat)) (v := .slice As9_1 (s9.1.take s79.2.toNat).length cs9_1) (Ow.nil (kInt .u8) G) (i := 0) rfl (by kernel_rfl) (by kernel_rfl) (Ho109.src (i := 1) rfl) sl22 ze5 nt22 (by decide) hb110) ?_
                  rintro _ _ _ ⟨rfl, AN111, cN111, CN111, rfl, HN111, rfl⟩
                  refine WL.pure 4 5 [0, 1, 16, 17, 149, 150] (L' := [(0, .slice Al0 l0.length cl0), (1, .int .i64 a1), (16, .int .i64 s79.1), (17, .int .i64 s79.2), (149, .slice AN111 (([] : List Int) ++ (s9.1.take s79.2.toNat)).length cN111), (150, .slice Al3 l3.length cl3)]) (by kernel_rfl) (by decide) ?_
                  by_cases hb112 : (([] : List Int) ++ (s9.1.take s79.2.toNat)).length + l3.length ≤ 1073741824
                  case neg => rw [if_neg hb112] at h; cases h
                  rw [if_pos hb112] at h
                  refine WL.op (op := .call { callee := (.builtin .append), args := #[(.tmp 149), (.tmp 150)], argTypes := #[22, 22] }) (ty := 22) (d := some 151) (g := none) (by kernel_rfl) (by kernel_rfl) (by kernel_rfl) (Ow.append (ys := l3) (v := .slice Al3 l3.length cl3) HN111 (i := 0) rfl (by kernel_rfl) (by kernel_rfl) Hl3.src sl22 ze5 nt22 (by decide) hb112) ?_
                  rintro _ _ _ ⟨rfl, AN113, cN113, CN113, rfl, HN113, rfl⟩
                  refine WL.restQ 6 [0, 1, 16, 17, 19] (L' := [(0, .slice Al0 l0.length cl0), (1, .int .i64 a1), (16, .int .i64 s79.1), (17, .int .i64 s79.2), (19, .slice AN113 ((([] : List Int) ++ (s9.1.take s79.2.toNat)) ++ l3).length cN113)]) (by kernel_rfl) ?_
                  obtain ⟨v114, hv115, h⟩ := Option.bind_eq_some_iff.1 h
                  replace hv115 := Option.some.inj hv115
                  have Hn116 := HN113
                  rw [hv115] at Hn116
                  refine WP.reput 19 (v := .slice AN113 ((([] : List Int) ++ (s9.1.take s79.2.toNat)) ++ l3).length cN113) (v' := .slice AN113 v114.length cN113) (by kernel_rfl) (by subst hv115; rfl) ?_
                  refine WP.pick [0, 1, 16, 17, 19] ?_
                  refine WP.dropAt 1 ?_
                  refine WP.seqR ?_
                  refine WL.pure 0 2 [0, 1, 16, 17, 19, 153, 154] (L' := [(0, .slice Al0 l0.length cl0), (1, .int .i64 a1), (16, .int .i64 s79.1), (17, .int .i64 s79.2), (19, .slice AN113 v114.length cN113), (153, .slice AN113 v114.length cN113), (154, .int .i64 s79.2)]) (by kernel_rfl) (by decide) ?_
                  rw [Option.bind_eq_some_iff] at h
                  obtain ⟨t117, ht118, h⟩ := h
                  refine WL.op (op := .call { callee := (.value (.func 21)), args := #[(.tmp 153), (.tmp 154)], argTypes := #[22, 3] }) (ty := 47) (d := some 155) (g := none) (by kernel_rfl) (by kernel_rfl) (by kernel_rfl) (Does.call (Φ := fun v' G' Γ' => ∃ (AR1191 : Option Addr), ∃ (cR1191 : Nat), ∃ (CR1191 : Chunk), v' = .tuple #[.int .i64 t117.1, .slice AR1191 t117.2.1.length cR1191, .int .i64 t117.2.2.1, .bool t117.2.2.2] ∧ Ow (kInt .u8) G AR1191 cR1191 t117.2.1 CR1191 ∧ G = G' ∧ CR1191 :: CN113 :: Γ = Γ') (f := 21) (args := [.slice AN113 v114.length cN113, .int .i64 s79.2]) (by kernel_rfl) (fun W hI => (Calls.lendN (Φ := fun v' N => ∃ (AR1191 : Option Addr), ∃ (cR1191 : Nat), ∃ (CR1191 : Chunk), v' = .tuple #[.int .i64 t117.1, .slice AR1191 t117.2.1.length cR1191, .int .i64 t117.2.2.1, .bool t117.2.2.2] ∧ Ow (kInt .u8) G AR1191 cR1191 t117.2.1 CR1191 ∧ N = [CR1191]) (H := []) (i := 0) rfl hI (fun _ e l121 nl121 hI => by subst e; exact (((grapevineref6_Next_calls k v114 s79.2 AN113 cN113 (Hn116.rdN l121 nl121) t117 ht118 hI)).mono fun _ _ hr => by obtain ⟨_, _, _, rfl, hd, hI⟩ := hr; obtain ⟨AR1191, cR1191, CR1191, rfl, HR1191, rfl, rfl⟩ := hd; exact ⟨_, _, _, rfl, ⟨[CR1191], ⟨AR1191, cR1191, CR1191, rfl, (HR1191.flat (kInt_flat _)), rfl⟩, rfl, rfl⟩, hI⟩))).mono fun _ _ hr => by obtain ⟨_, _, _, rfl, ⟨_, hd, rfl, rfl⟩, hI⟩ := hr; obtain ⟨AR1191, cR1191, CR1191, rfl, HR1191, rfl⟩ := hd; exact ⟨_, _, _, rfl, ⟨AR1191, cR1191, CR1191, rfl, HR1191, rfl, rfl⟩, hI⟩)) ?_
                  rintro _ _ _ ⟨AR1191, cR1191, CR1191, rfl, HR1191, rfl, rfl⟩
                  refine WL.restQ 3 [0, 1, 16, 17, 19, 23] (L' := [(0, .slice Al0 l0.length cl0), (1, .int .i64 a1), (16, .int .i64 s79.1), (17, .int .i64 s79.2), (19, .slice AN113 v114.length cN113), (23, .bool t117.2.2.2)]) (by kernel_rfl) ?_
                  refine WP.dropAt 0 ?_
                  refine WP.seqR ?_
                  refine WL.pure 0 2 [0, 16, 17, 23, 161, 162] (L' := [(0, .slice Al0 l0.length cl0), (16, .int .i64 s79.1), (17, .int .i64 s79.2), (23, .bool t117.2.2.2), (161, .slice AN113 v114.length cN113), (162, .int .i64 a1)]) (by kernel_rfl) (by decide) ?_
                  rw [Option.bind_eq_some_iff] at h
                  obtain ⟨t122, ht123, h⟩ := h
                  refine WL.op (op := .call { callee := (.value (.func 12)), args := #[(.tmp 161), (.tmp 162)], argTypes := #[22, 3] }) (ty := 26) (d := some 163) (g := none) (by kernel_rfl) (by kernel_rfl) (by kernel_rfl) (Does.call (Φ := fun v' G' Γ' => ∃ (AR1240 : Option Addr), ∃ (cR1240 : Nat), ∃ (CR1240 : Chunk), v' = .tuple #[.slice AR1240 t122.1.length cR1240, .int .i64 t122.2] ∧ Dp d41 G AR1240 cR1240 t122.1 CR1240 ∧ G = G' ∧ CR1240 :: CN113 :: Γ = Γ') (f := 12) (args := [.slice AN113 v114.length cN113, .int .i64 a1]) (by kernel_rfl) (fun W hI => (Calls.lendN (Φ := fun v' N => ∃ (AR1240 : Option Addr), ∃ (cR1240 : Nat), ∃ (CR1240 : Chunk), v' = .tuple #[.slice AR1240 t122.1.length cR1240, .int .i64 t122.2] ∧ Dp d41 G AR1240 cR1240 t122.1 CR1240 ∧ N = [CR1240]) (H := []) (i := 0) rfl hI (fun _ e l126 nl126 hI => by subst e; exact (((segment_Read_calls (HT.mono l126) k v114 a1 AN113 cN113 (Hn116.rdN l126 nl126) t122 ht123 hI)).mono fun _ _ hr => by obtain ⟨_, _, _, rfl, hd, hI⟩ := hr; obtain ⟨AR1240, cR1240, CR1240, rfl, HR1240, rfl, rfl⟩ := hd; exact ⟨_, _, _, rfl, ⟨[CR1240], ⟨AR1240, cR1240, CR1240, rfl, (HR1240.flat (kInt_flat .i64)), rfl⟩, rfl, rfl⟩, hI⟩))).mono fun _ _ hr => by obtain ⟨_, _, _, rfl, ⟨_, hd, rfl, rfl⟩, hI⟩ := hr; obtain ⟨AR1240, cR1240, CR1240, rfl, HR1240, rfl⟩ := hd; exact ⟨_, _, _, rfl, ⟨AR1240, cR1240, CR1240, rfl, HR1240, rfl, rfl⟩, hI⟩)) ?_
                  rintro _ _ _ ⟨AR1240, cR1240, CR1240, rfl, HR1240, rfl, rfl⟩
                  refine WL.restQ 3 [0, 14, 15, 16, 17, 23] (L' := [(0, .slice Al0 l0.length cl0), (14, .slice AR1240 t122.1.length cR1240), (15, .int .i64 t122.2), (16, .int .i64 s79.1), (17, .int .i64 s79.2), (23, .bool t117.2.2.2)]) (by kernel_rfl) ?_
                  refine WP.dropAt 1 ?_
                  rw [Option.bind_eq_some_iff] at h
                  obtain ⟨os127, h, hk128⟩ := h
                  refine WP.cut (fun L' G' Γ' => ∃ s127 : Bool, s127 = os127 ∧ L' = [(8, .bool s127)] ∧ G = G' ∧ Γ = Γ') ?_ ?_
                  · clear hk128
                    refine WP.region ?_
                    refine WL.pure 0 2 [0, 14, 15, 16, 17, 167] (L' := [(0, .slice Al0 l0.length cl0), (14, .slice AR1240 t122.1.length cR1240), (15, .int .i64 t122.2), (16, .int .i64 s79.1), (17, .int .i64 s79.2), (167, .bool t117.2.2.2)]) (by kernel_rfl) (by decide) ?_
                    refine WL.split 167 (b := t117.2.2.2) (by kernel_rfl) (fun hc => ?_) (fun hc => ?_)
                    · replace hc := hc
                      rw [if_pos hc] at h
                      have hc129 := hc
                      clear hc
                      refine WL.pure 2 14 [179] (L' := [(179, .bool true)]) (by kernel_rfl) (by decide) ?_
                      rw [Option.bind_eq_some_iff] at h
                      obtain ⟨t130, ht131, h⟩ := h
                      refine WL.op (op := .call { callee := (.value (.func 10)), args := #[], argTypes := #[] }) (ty := 4) (d := some 180) (g := some (13, true)) (by kernel_rfl) (by kernel_rfl) (by kernel_rfl) (Does.call (f := 10) (args := []) (by kernel_rfl) (fun W hI => (grapevinelaw8_awake_calls HT k   t130 ht131 hI))) ?_
                      rintro _ _ _ ⟨rfl, rfl, rfl⟩
                      refine WL.rest 15 [8] (L' := [(8, .bool t130)]) (by kernel_rfl) ?_
                      refine QP.dropAt 0 ?_
                      refine QP.pick [8] ?_
                      exact QP.meet ⟨_, Option.some.inj h, rfl, rfl, rfl⟩
                    · replace hc := (Bool.eq_false_iff.1 hc)
                      rw [if_neg hc] at h
                      have hc129 := hc
                      clear hc
                      refine WL.pure 2 5 [15, 17, 167, 168, 169, 170] (L' := [(15, .int .i64 t122.2), (17, .int .i64 s79.2), (167, .bool false), (168, .slice AR1240 t122.1.length cR1240), (169, .slice Al0 l0.length cl0), (170, .int .i64 s79.1)]) (by kernel_rfl) (by decide) ?_
                      by_cases hb134 : 0 ≤ (0 : Int) ∧ (0 : Int) ≤ s79.1 ∧ s79.1 ≤ (l0.length : Int)
                      case neg => rw [if_neg hb134] at h; cases h
                      rw [if_pos hb134] at h
                      refine WL.tellS (op := .slice 25 (.tmp 169) none (some (.tmp 170)) none) (ty := 25) (d := some 171) (g := some (1, false)) (by kernel_rfl) (by kernel_rfl) (by kernel_rfl) (Hl0.slice (l := 0) (h := s79.1) (by kernel_rfl) rfl ⟨.i64, by kernel_rfl⟩ hb134.1 hb134.2.1 hb134.2.2 sl25) ?_
                      rintro AP135 cP135 HP135
                      rw [Option.bind_eq_some_iff] at h
                      obtain ⟨t136, ht137, h⟩ := h
                      refine WL.op (op := .call { callee := (.value (.func 14)), args := #[(.tmp 168), (.tmp 171)], argTypes := #[25, 25] }) (ty := 4) (d := some 172) (g := some (1, false)) (by kernel_rfl) (by kernel_rfl) (by kernel_rfl) (Does.call (Φ := fun v' G' Γ' => v' = .bool t136 ∧ G = G' ∧ CR1240 :: Γ = Γ') (f := 14) (args := [.slice AR1240 t122.1.length cR1240, .slice AP135 ((l0.take s79.1.toNat).drop (0 : Int).toNat).length cP135]) (by kernel_rfl) (fun W hI => (Calls.lendN (Φ := fun v' N => v' = .bool t136 ∧ N = []) (H := []) (i := 0) rfl hI (fun _ e l140 nl140 hI => by subst e; exact (((grapevinelaw0_SameEntries_calls k t122.1 ((l0.take s79.1.toNat).drop (0 : Int).toNat) AR1240 cR1240 (HR1240.rdN l140 nl140) AP135 cP135 (HP135.mono l140) t136 ht137 hI)).mono fun _ _ hr => by obtain ⟨_, _, _, rfl, hd, hI⟩ := hr; obtain ⟨rfl, rfl, rfl⟩ := hd; exact ⟨_, _, _, rfl, ⟨[], ⟨rfl, rfl⟩, rfl, rfl⟩, hI⟩))).mono fun _ _ hr => by obtain ⟨_, _, _, rfl, ⟨_, hd, rfl, rfl⟩, hI⟩ := hr; obtain ⟨rfl, rfl⟩ := hd; exact ⟨_, _, _, rfl, ⟨rfl, rfl, rfl⟩, hI⟩)) ?_
                      rintro _ _ _ ⟨rfl, rfl, rfl⟩
                      refine WL.pure 7 8 [15, 17, 167, 173] (L' := [(15, .int .i64 t122.2), (17, .int .i64 s79.2), (167, .bool false), (173, .bool t136)]) (by kernel_rfl) (by decide) ?_
                      refine WL.split 173 (b := t136) (by kernel_rfl) (fun hc => ?_) (fun hc => ?_)
                      · replace hc := hc
                        rw [if_pos hc] at h
                        have hc141 := hc
                        clear hc
                        refine WL.pure 8 14 [179] (L' := [(179, .bool (t122.2 == s79.2))]) (by kernel_rfl) (by decide) ?_
                        refine WL.split 179 (b := (t122.2 == s79.2)) (by kernel_rfl) (fun hc => ?_) (fun hc => ?_)
                        · replace hc := eq_of_beq hc
                          rw [if_pos hc] at h
                          have hc142 := hc
                          clear hc
                          rw [Option.bind_eq_some_iff] at h
                          obtain ⟨t143, ht144, h⟩ := h
                          refine WL.op (op := .call { callee := (.value (.func 10)), args := #[], argTypes := #[] }) (ty := 4) (d := some 180) (g := some (13, true)) (by kernel_rfl) (by kernel_rfl) (by kernel_rfl) (Does.call (f := 10) (args := []) (by kernel_rfl) (fun W hI => (grapevinelaw8_awake_calls HT k   t143 ht144 hI))) ?_
                          rintro _ _ _ ⟨rfl, rfl, rfl⟩
                          refine WL.rest 15 [8] (L' := [(8, .bool t143)]) (by kernel_rfl) ?_
                          refine QP.dropAt 0 ?_
                          refine QP.pick [8] ?_
                          exact QP.meet ⟨_, Option.some.inj h, rfl, rfl, rfl⟩
                        · replace hc := ne_of_beq_false hc
                          rw [if_neg hc] at h
                          have hc142 := hc
                          clear hc
                          refine WL.rest 14 [8] (L' := [(8, .bool false)]) (by kernel_rfl) ?_
                          refine QP.dropAt 0 ?_
                          refine QP.pick [8] ?_
                          exact QP.meet ⟨_, Option.some.inj h, rfl, rfl, rfl⟩
                      · replace hc := (Bool.eq_false_iff.1 hc)
                        rw [if_neg hc] at h
                        have hc141 := hc
                        clear hc
                        refine WL.rest 8 [8] (L' := [(8, .bool false)]) (by kernel_rfl) ?_
                        refine QP.dropAt 0 ?_
                        refine QP.pick [8] ?_
                        exact QP.meet ⟨_, Option.some.inj h, rfl, rfl, rfl⟩
                  · rintro _ _ _ ⟨s127, rfl, rfl, rfl, rfl⟩
                    clear h
                    replace h := hk128
                    refine WP.ret ?_
                    obtain rfl := Option.some.inj h
                    exact QP.returned [8] [.bool s127] _ (by kernel_rfl) (by kernel_rfl) (by kernel_rfl) (fun W hI => ⟨_, _, _, rfl, ⟨rfl, rfl, rfl⟩, hI⟩)
/-- The plain law. -/
def SegmentTorn_Pure : Prop := ∀ (l0 : List T41) (a1 : Int) (a2 : Int) (l3 : List Int), (l0.length ≤ maxLen ∧ ∀ z0 ∈ l0, ((Lit.int .i64 z0.f0).wf = true ∧ (z0.f1.length ≤ maxLen ∧ ∀ zz0_f1 ∈ z0.f1, (Lit.int .i64 zz0_f1).wf = true) ∧ (z0.f2.length ≤ maxLen ∧ ∀ zz0_f2 ∈ z0.f2, (Lit.int .i64 zz0_f2).wf = true) ∧ (Lit.int .i64 z0.f3).wf = true ∧ (Lit.int .i64 z0.f4).wf = true ∧ (Lit.int .i64 z0.f5).wf = true ∧ (Lit.int .i64 z0.f6).wf = true ∧ z0.f7.size ≤ maxLen)) → (Lit.int .i64 a1).wf = true → (Lit.int .i64 a2).wf = true → (l3.length ≤ maxLen ∧ ∀ z0 ∈ l3, (Lit.int .u8 z0).wf = true) → ∃ k, grapevinelaw8_SegmentTorn k l0 a1 a2 l3 = some true
end Go.Proofs.YtfocilpnbiciaaaDoor.Gf
