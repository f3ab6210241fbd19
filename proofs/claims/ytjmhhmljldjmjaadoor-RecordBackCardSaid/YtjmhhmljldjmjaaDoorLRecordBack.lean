/- Walks of Go functions: what each tells, as a plain Lean function, and that the Go code comes to it. Written by gg.py of this repo. -/
import Derived.Test.YtjmhhmljldjmjaaDoorT
import Derived.Test.YtjmhhmljldjmjaaDoorF0
import Derived.Test.YtjmhhmljldjmjaaDoorF1
namespace Go.Proofs.YtjmhhmljldjmjaaDoor.Gf
open Go Go.Gg
set_option maxRecDepth 100000
set_option linter.unusedVariables false
set_option linter.unusedSimpArgs false

/-! ### grapevine/grapevinelaw4.RecordBack: function 5 -/
def grapevinelaw4_RecordBack (k : Nat) (a0 : T27) (l1 : List Int) (l2 : List Int) (a3 : Int) : Option Bool := ((if (a0.f4.size : Int) > 300 then some true else (if (l1.length : Int) > 300 then some true else some (decide ((l2.length : Int) > 300)))).bind fun s2 => (if s2 = true then ((grapevinelaw4_awake k ).bind fun t7 => some t7) else ((record_Lay k a0).bind fun t11 => (if ¬ t11.2 = 0 then ((if (t11.1.length : Int) = 0 then (if t11.2 = 2 then ((record_May a0).bind fun t20 => (if (!t20) = true then ((grapevinelaw4_awake k ).bind fun t25 => some t25) else some false)) else some false) else some false).bind fun s16 => some s16) else (if (t11.1.length : Int) = 0 then some false else (if ([] : List Int).length + l1.length ≤ 1073741824 then (if (([] : List Int) ++ l1).length + t11.1.length ≤ 1073741824 then (if ((([] : List Int) ++ l1) ++ t11.1).length + l2.length ≤ 1073741824 then ((some (((([] : List Int) ++ l1) ++ t11.1) ++ l2)).bind fun v36 => ((record_Read k v36 (l1.length : Int)).bind fun t39 => ((grapevinelaw0_Low a3 (t11.1.length : Int)).bind fun t45 => (if 0 ≤ (0 : Int) ∧ (0 : Int) ≤ (IntKind.i64.wrap ((l1.length : Int) + t45)) ∧ (IntKind.i64.wrap ((l1.length : Int) + t45)) ≤ (v36.length : Int) then ((record_Read k ((v36.take (IntKind.i64.wrap ((l1.length : Int) + t45)).toNat).drop (0 : Int).toNat) (l1.length : Int)).bind fun t57 => ((if t39.1 = a0 then (if t39.2.1 = (IntKind.i64.wrap ((l1.length : Int) + (t11.1.length : Int))) then (if t39.2.2 = true then (if (!t57.2.2) = true then ((grapevinelaw4_awake k ).bind fun t68 => some t68) else some false) else some false) else some false) else some false).bind fun s62 => some s62)) else none)))) else none) else none) else none))))))
set_option maxHeartbeats 4000000 in
theorem grapevinelaw4_RecordBack_calls {B : World} {G : GMap} {Γ : List Chunk} {W : World} (HT : Tabs B G) (k : Nat) (a0 : T27) (l1 : List Int) (l2 : List Int) (a3 : Int) (Al1 : Option Addr) (cl1 : Nat) (Hl1 : Rd (kInt .u8) G Al1 cl1 l1) (Al2 : Option Addr) (cl2 : Nat) (Hl2 : Rd (kInt .u8) G Al2 cl2 l2) (r : Bool) (h : grapevinelaw4_RecordBack k a0 l1 l2 a3 = some r) (hI : Inv B G (Γ) W) :
    Calls Tryd.prog 5 [.agg #[.int .i64 a0.f0, .int .i64 a0.f1, .int .i64 a0.f2, .int .i64 a0.f3, .string a0.f4], .slice Al1 l1.length cl1, .slice Al2 l2.length cl2, .int .i64 a3].toArray W (Ret B (fun v G' Γ' => v = .bool r ∧ G = G' ∧ Γ = Γ')) := by
  refine calls_WP (Γ := Γ) (G := G) (B := B) Tryd.func5 rfl (by kernel_rfl) ?_ hI
  clear hI
  unfold grapevinelaw4_RecordBack at h
  refine WP.seqR ?_
  refine WL.op (op := .box 27 (.tmp 0)) (ty := 0) (d := some 4) (g := none) (by kernel_rfl) (by kernel_rfl) (by kernel_rfl) (Does.new (o := .cells #[.int .i64 a0.f0, .int .i64 a0.f1, .int .i64 a0.f2, .int .i64 a0.f3, .string a0.f4] 27 (0, 0)) (v := fun r => .pointer (some ⟨r, 0, none⟩)) (fun r => by kernel_rfl)) ?_
  rintro _ _ _ ⟨b1, rfl, rfl, rfl⟩
  refine WL.restQ 1 [1, 2, 3, 4] (L' := [(1, .slice Al1 l1.length cl1), (2, .slice Al2 l2.length cl2), (3, .int .i64 a3), (4, .pointer (some ⟨b1, 0, none⟩))]) (by kernel_rfl) ?_
  refine WP.seq ?_
  rw [Option.bind_eq_some_iff] at h
  obtain ⟨os2, h, hk3⟩ := h
  refine WP.cut (fun L' G' Γ' => ∃ s2 : Bool, s2 = os2 ∧ L' = [(1, .slice Al1 l1.length cl1), (2, .slice Al2 l2.length cl2), (3, .int .i64 a3), (4, .pointer (some ⟨b1, 0, none⟩)), (31, .bool s2)] ∧ G = G' ∧ [(b1, .cells #[.int .i64 a0.f0, .int .i64 a0.f1, .int .i64 a0.f2, .int .i64 a0.f3, .string a0.f4] 27 (0, 0))] :: Γ = Γ') ?_ ?_
  · clear hk3
    refine WP.region ?_
    refine WL.pure 0 1 [1, 2, 3, 4, 18] (L' := [(1, .slice Al1 l1.length cl1), (2, .slice Al2 l2.length cl2), (3, .int .i64 a3), (4, .pointer (some ⟨b1, 0, none⟩)), (18, .pointer (some ⟨b1, 4, none⟩))]) (by kernel_rfl) (by decide) ?_
    refine WL.tell (op := .load 9 (.tmp 18)) (ty := 9) (d := some 19) (g := none) (by kernel_rfl) (by kernel_rfl) (by kernel_rfl) (Tells.load_box (i := 0) (b := b1) (o := 4) (agg := false) (by rfl) ag9 (by kernel_rfl) (fun _ => rfl) (Nat.le_of_ble_eq_true rfl) (v := .string a0.f4) (by kernel_rfl)) ?_
    refine WL.pure 2 5 [1, 2, 3, 4, 22] (L' := [(1, .slice Al1 l1.length cl1), (2, .slice Al2 l2.length cl2), (3, .int .i64 a3), (4, .pointer (some ⟨b1, 0, none⟩)), (22, .bool (decide ((a0.f4.size : Int) > 300)))]) (by kernel_rfl) (by decide) ?_
    refine WL.split 22 (b := decide ((a0.f4.size : Int) > 300)) (by kernel_rfl) (fun hc => ?_) (fun hc => ?_)
    · replace hc := of_decide_eq_true hc
      rw [if_pos hc] at h
      have hc4 := hc
      clear hc
      refine WL.rest 5 [1, 2, 3, 4, 31] (L' := [(1, .slice Al1 l1.length cl1), (2, .slice Al2 l2.length cl2), (3, .int .i64 a3), (4, .pointer (some ⟨b1, 0, none⟩)), (31, .bool true)]) (by kernel_rfl) ?_
      refine QP.pick [1, 2, 3, 4, 31] ?_
      exact QP.meet ⟨_, Option.some.inj h, rfl, rfl, rfl⟩
    · replace hc := of_decide_eq_false hc
      rw [if_neg hc] at h
      have hc4 := hc
      clear hc
      refine WL.pure 5 10 [1, 2, 3, 4, 27] (L' := [(1, .slice Al1 l1.length cl1), (2, .slice Al2 l2.length cl2), (3, .int .i64 a3), (4, .pointer (some ⟨b1, 0, none⟩)), (27, .bool (decide ((l1.length : Int) > 300)))]) (by kernel_rfl) (by decide) ?_
      refine WL.split 27 (b := decide ((l1.length : Int) > 300)) (by kernel_rfl) (fun hc => ?_) (fun hc => ?_)
      · replace hc := of_decide_eq_true hc
        rw [if_pos hc] at h
        have hc5 := hc
        clear hc
        refine WL.rest 10 [1, 2, 3, 4, 31] (L' := [(1, .slice Al1 l1.length cl1), (2, .slice Al2 l2.length cl2), (3, .int .i64 a3), (4, .pointer (some ⟨b1, 0, none⟩)), (31, .bool true)]) (by kernel_rfl) ?_
        refine QP.pick [1, 2, 3, 4, 31] ?_
        exact QP.meet ⟨_, Option.some.inj h, rfl, rfl, rfl⟩
      · replace hc := of_decide_eq_false hc
        rw [if_neg hc] at h
        have hc5 := hc
        clear hc
        refine WL.rest 10 [1, 2, 3, 4, 31] (L' := [(1, .slice Al1 l1.length cl1), (2, .slice Al2 l2.length cl2), (3, .int .i64 a3), (4, .pointer (some ⟨b1, 0, none⟩)), (31, .bool (decide ((l2.length : Int) > 300)))]) (by kernel_rfl) ?_
        refine QP.pick [1, 2, 3, 4, 31] ?_
        exact QP.meet ⟨_, Option.some.inj h, rfl, rfl, rfl⟩
  · rintro _ _ _ ⟨s2, rfl, rfl, rfl, rfl⟩
    clear h
    replace h := hk3
    refine WP.cond (b := s2) (by kernel_rfl) (fun hc => ?_) (fun hc => ?_)
    · replace hc := hc
      rw [if_pos hc] at h
      have hc6 := hc
      clear hc
      refine WP.seqR ?_
      rw [Option.bind_eq_some_iff] at h
      obtain ⟨t7, ht8, h⟩ := h
      refine WL.op (op := .call { callee := (.value (.func 13)), args := #[], argTypes := #[] }) (ty := 4) (d := some 32) (g := none) (by kernel_rfl) (by kernel_rfl) (by kernel_rfl) (Does.call (f := 13) (args := []) (by kernel_rfl) (fun W hI => (grapevinelaw4_awake_calls HT k   t7 ht8 hI))) ?_
      rintro _ _ _ ⟨rfl, rfl, rfl⟩
      refine WL.restQ 1 [8] (L' := [(8, .bool t7)]) (by kernel_rfl) ?_
      refine WP.dropAt 0 ?_
      refine WP.ret ?_
      refine QP.thenR ?_
      obtain rfl := Option.some.inj h
      exact QP.returned [8] [.bool t7] _ (by kernel_rfl) (by kernel_rfl) (by kernel_rfl) (fun W hI => ⟨_, _, _, rfl, ⟨rfl, rfl, rfl⟩, hI⟩)
    · replace hc := (Bool.eq_false_iff.1 hc)
      rw [if_neg hc] at h
      have hc6 := hc
      clear hc
      refine WP.skip ?_
      refine QP.next ?_
      refine WP.pick [1, 2, 3, 4] ?_
      refine WP.seqR ?_
      refine WL.tell (op := .load 27 (.tmp 4)) (ty := 27) (d := some 34) (g := none) (by kernel_rfl) (by kernel_rfl) (by kernel_rfl) (Tells.load_box (i := 0) (b := b1) (o := 0) (agg := true) (by rfl) ag27 (by kernel_rfl) (fun h => by cases h) (Nat.le_of_ble_eq_true rfl) (v := .agg #[.int .i64 a0.f0, .int .i64 a0.f1, .int .i64 a0.f2, .int .i64 a0.f3, .string a0.f4]) (by kernel_rfl)) ?_
      rw [Option.bind_eq_some_iff] at h
      obtain ⟨t11, ht12, h⟩ := h
      refine WL.op (op := .call { callee := (.value (.func 14)), args := #[(.tmp 34)], argTypes := #[27] }) (ty := 31) (d := some 35) (g := none) (by kernel_rfl) (by kernel_rfl) (by kernel_rfl) (Does.call (f := 14) (args := [.agg #[.int .i64 a0.f0, .int .i64 a0.f1, .int .i64 a0.f2, .int .i64 a0.f3, .string a0.f4]]) (by kernel_rfl) (fun W hI => (record_Lay_calls HT k a0  t11 ht12 hI))) ?_
      rintro _ _ _ ⟨AR130, cR130, CR130, rfl, HR130, rfl, rfl⟩
      refine WL.restQ 2 [1, 2, 3, 4, 9, 10] (L' := [(1, .slice Al1 l1.length cl1), (2, .slice Al2 l2.length cl2), (3, .int .i64 a3), (4, .pointer (some ⟨b1, 0, none⟩)), (9, .slice AR130 t11.1.length cR130), (10, .int .i64 t11.2)]) (by kernel_rfl) ?_
      refine WP.seq ?_
      refine WP.seqP [1, 2, 3, 4, 9, 10, 39] (L' := [(1, .slice Al1 l1.length cl1), (2, .slice Al2 l2.length cl2), (3, .int .i64 a3), (4, .pointer (some ⟨b1, 0, none⟩)), (9, .slice AR130 t11.1.length cR130), (10, .int .i64 t11.2), (39, .bool (t11.2 != 0))]) (by kernel_rfl) ?_
      refine WP.cond (b := (t11.2 != 0)) (by kernel_rfl) (fun hc => ?_) (fun hc => ?_)
      · replace hc := (bne_iff_ne.1 hc)
        rw [if_pos hc] at h
        have hc15 := hc
        clear hc
        rw [Option.bind_eq_some_iff] at h
        obtain ⟨os16, h, hk17⟩ := h
        refine WP.cut (fun L' G' Γ' => ∃ s16 : Bool, s16 = os16 ∧ L' = [(8, .bool s16)] ∧ G = G' ∧ CR130 :: [(b1, .cells #[.int .i64 a0.f0, .int .i64 a0.f1, .int .i64 a0.f2, .int .i64 a0.f3, .string a0.f4] 27 (0, 0))] :: Γ = Γ') ?_ ?_
        · clear hk17
          refine WP.region ?_
          refine WL.pure 0 4 [4, 10, 43] (L' := [(4, .pointer (some ⟨b1, 0, none⟩)), (10, .int .i64 t11.2), (43, .bool ((t11.1.length : Int) == 0))]) (by kernel_rfl) (by decide) ?_
          refine WL.split 43 (b := ((t11.1.length : Int) == 0)) (by kernel_rfl) (fun hc => ?_) (fun hc => ?_)
          · replace hc := eq_of_beq hc
            rw [if_pos hc] at h
            have hc18 := hc
            clear hc
            refine WL.pure 4 8 [4, 47] (L' := [(4, .pointer (some ⟨b1, 0, none⟩)), (47, .bool (t11.2 == 2))]) (by kernel_rfl) (by decide) ?_
            refine WL.split 47 (b := (t11.2 == 2)) (by kernel_rfl) (fun hc => ?_) (fun hc => ?_)
            · replace hc := eq_of_beq hc
              rw [if_pos hc] at h
              have hc19 := hc
              clear hc
              refine WL.tell (op := .load 27 (.tmp 4)) (ty := 27) (d := some 48) (g := some (7, true)) (by kernel_rfl) (by kernel_rfl) (by kernel_rfl) (Tells.load_box (i := 1) (b := b1) (o := 0) (agg := true) (by rfl) ag27 (by kernel_rfl) (fun h => by cases h) (Nat.le_of_ble_eq_true rfl) (v := .agg #[.int .i64 a0.f0, .int .i64 a0.f1, .int .i64 a0.f2, .int .i64 a0.f3, .string a0.f4]) (by kernel_rfl)) ?_
              rw [Option.bind_eq_some_iff] at h
              obtain ⟨t20, ht21, h⟩ := h
              refine WL.op (op := .call { callee := (.value (.func 23)), args := #[(.tmp 48)], argTypes := #[27] }) (ty := 4) (d := some 49) (g := some (7, true)) (by kernel_rfl) (by kernel_rfl) (by kernel_rfl) (Does.call (f := 23) (args := [.agg #[.int .i64 a0.f0, .int .i64 a0.f1, .int .i64 a0.f2, .int .i64 a0.f3, .string a0.f4]]) (by kernel_rfl) (fun W hI => (record_May_calls HT a0  t20 ht21 hI))) ?_
              rintro _ _ _ ⟨rfl, rfl, rfl⟩
              refine WL.pure 10 13 [52] (L' := [(52, .bool (!t20))]) (by kernel_rfl) (by decide) ?_
              refine WL.split 52 (b := (!t20)) (by kernel_rfl) (fun hc => ?_) (fun hc => ?_)
              · replace hc := hc
                rw [if_pos hc] at h
                have hc24 := hc
                clear hc
                rw [Option.bind_eq_some_iff] at h
                obtain ⟨t25, ht26, h⟩ := h
                refine WL.op (op := .call { callee := (.value (.func 13)), args := #[], argTypes := #[] }) (ty := 4) (d := some 53) (g := some (12, true)) (by kernel_rfl) (by kernel_rfl) (by kernel_rfl) (Does.call (f := 13) (args := []) (by kernel_rfl) (fun W hI => (grapevinelaw4_awake_calls HT k   t25 ht26 hI))) ?_
                rintro _ _ _ ⟨rfl, rfl, rfl⟩
                refine WL.rest 14 [8] (L' := [(8, .bool t25)]) (by kernel_rfl) ?_
                refine QP.pick [8] ?_
                exact QP.meet ⟨_, Option.some.inj h, rfl, rfl, rfl⟩
              · replace hc := (Bool.eq_false_iff.1 hc)
                rw [if_neg hc] at h
                have hc24 := hc
                clear hc
                refine WL.rest 13 [8] (L' := [(8, .bool false)]) (by kernel_rfl) ?_
                refine QP.pick [8] ?_
                exact QP.meet ⟨_, Option.some.inj h, rfl, rfl, rfl⟩
            · replace hc := ne_of_beq_false hc
              rw [if_neg hc] at h
              have hc19 := hc
              clear hc
              refine WL.rest 8 [8] (L' := [(8, .bool false)]) (by kernel_rfl) ?_
              refine QP.pick [8] ?_
              exact QP.meet ⟨_, Option.some.inj h, rfl, rfl, rfl⟩
          · replace hc := ne_of_beq_false hc
            rw [if_neg hc] at h
            have hc18 := hc
            clear hc
            refine WL.rest 4 [8] (L' := [(8, .bool false)]) (by kernel_rfl) ?_
            refine QP.pick [8] ?_
            exact QP.meet ⟨_, Option.some.inj h, rfl, rfl, rfl⟩
        · rintro _ _ _ ⟨s16, rfl, rfl, rfl, rfl⟩
          clear h
          replace h := hk17
          refine WP.ret ?_
          refine QP.thenR ?_
          obtain rfl := Option.some.inj h
          refine QP.dropAt 1 ?_
          refine QP.dropAt 0 ?_
          exact QP.returned [8] [.bool s16] _ (by kernel_rfl) (by kernel_rfl) (by kernel_rfl) (fun W hI => ⟨_, _, _, rfl, ⟨rfl, rfl, rfl⟩, hI⟩)
      · replace hc := (not_not_intro (bne_eq_false_iff_eq.1 hc))
        rw [if_neg hc] at h
        have hc15 := hc
        clear hc
        refine WP.skip ?_
        refine QP.next ?_
        refine WP.pick [1, 2, 3, 4, 9] ?_
        refine WP.seq ?_
        refine WP.seqP [1, 2, 3, 4, 9, 57] (L' := [(1, .slice Al1 l1.length cl1), (2, .slice Al2 l2.length cl2), (3, .int .i64 a3), (4, .pointer (some ⟨b1, 0, none⟩)), (9, .slice AR130 t11.1.length cR130), (57, .bool ((t11.1.length : Int) == 0))]) (by kernel_rfl) ?_
        refine WP.cond (b := ((t11.1.length : Int) == 0)) (by kernel_rfl) (fun hc => ?_) (fun hc => ?_)
        · replace hc := eq_of_beq hc
          rw [if_pos hc] at h
          have hc29 := hc
          clear hc
          refine WP.seqP [8] (L' := [(8, .bool false)]) (by kernel_rfl) ?_
          refine WP.dropAt 1 ?_
          refine WP.dropAt 0 ?_
          refine WP.ret ?_
          refine QP.thenR ?_
          obtain rfl := Option.some.inj h
          exact QP.returned [8] [.bool false] _ (by kernel_rfl) (by kernel_rfl) (by kernel_rfl) (fun W hI => ⟨_, _, _, rfl, ⟨rfl, rfl, rfl⟩, hI⟩)
        · replace hc := ne_of_beq_false hc
          rw [if_neg hc] at h
          have hc29 := hc
          clear hc
          refine WP.skip ?_
          refine QP.next ?_
          refine WP.pick [1, 2, 3, 4, 9] ?_
          refine WP.seqR ?_
          refine WL.pure 0 1 [1, 2, 3, 4, 9, 58] (L' := [(1, .slice Al1 l1.length cl1), (2, .slice Al2 l2.length cl2), (3, .int .i64 a3), (4, .pointer (some ⟨b1, 0, none⟩)), (9, .slice AR130 t11.1.length cR130), (58, .slice Al1 l1.length cl1)]) (by kernel_rfl) (by decide) ?_
          refine WL.addNil ?_
          by_cases hb30 : ([] : List Int).length + l1.length ≤ 1073741824
          case neg => rw [if_neg hb30] at h; cases h
          rw [if_pos hb30] at h
          refine WL.op (op := .call { callee := (.builtin .append), args := #[(.const (.slice none 0 0)), (.tmp 58)], argTypes := #[29, 29] }) (ty := 29) (d := some 59) (g := none) (by kernel_rfl) (by kernel_rfl) (by kernel_rfl) (Ow.append (ys := l1) (v := .slice Al1 l1.length cl1) (Ow.nil (kInt .u8) G) (i := 0) rfl (by kernel_rfl) (by kernel_rfl) Hl1.src sl29 ze5 nt29 (by decide) hb30) ?_
          rintro _ _ _ ⟨rfl, AN31, cN31, CN31, rfl, HN31, rfl⟩
          refine WL.pure 2 3 [1, 2, 3, 4, 9, 59, 60] (L' := [(1, .slice Al1 l1.length cl1), (2, .slice Al2 l2.length cl2), (3, .int .i64 a3), (4, .pointer (some ⟨b1, 0, none⟩)), (9, .slice AR130 t11.1.length cR130), (59, .slice AN31 (([] : List Int) ++ l1).length cN31), (60, .slice AR130 t11.1.length cR130)]) (by kernel_rfl) (by decide) ?_
          by_cases hb32 : (([] : List Int) ++ l1).length + t11.1.length ≤ 1073741824
          case neg => rw [if_neg hb32] at h; cases h
          rw [if_pos hb32] at h
          refine WL.op (op := .call { callee := (.builtin .append), args := #[(.tmp 59), (.tmp 60)], argTypes := #[29, 29] }) (ty := 29) (d := some 61) (g := none) (by kernel_rfl) (by kernel_rfl) (by kernel_rfl) (Ow.append (ys := t11.1) (v := .slice AR130 t11.1.length cR130) HN31 (i := 0) rfl (by kernel_rfl) (by kernel_rfl) (HR130.src (i := 1) rfl) sl29 ze5 nt29 (by decide) hb32) ?_
          rintro _ _ _ ⟨rfl, AN33, cN33, CN33, rfl, HN33, rfl⟩
          refine WL.pure 4 5 [1, 3, 4, 9, 61, 62] (L' := [(1, .slice Al1 l1.length cl1), (3, .int .i64 a3), (4, .pointer (some ⟨b1, 0, none⟩)), (9, .slice AR130 t11.1.length cR130), (61, .slice AN33 ((([] : List Int) ++ l1) ++ t11.1).length cN33), (62, .slice Al2 l2.length cl2)]) (by kernel_rfl) (by decide) ?_
          by_cases hb34 : ((([] : List Int) ++ l1) ++ t11.1).length + l2.length ≤ 1073741824
          case neg => rw [if_neg hb34] at h; cases h
          rw [if_pos hb34] at h
          refine WL.op (op := .call { callee := (.builtin .append), args := #[(.tmp 61), (.tmp 62)], argTypes := #[29, 29] }) (ty := 29) (d := some 63) (g := none) (by kernel_rfl) (by kernel_rfl) (by kernel_rfl) (Ow.append (ys := l2) (v := .slice Al2 l2.length cl2) HN33 (i := 0) rfl (by kernel_rfl) (by kernel_rfl) Hl2.src sl29 ze5 nt29 (by decide) hb34) ?_
          rintro _ _ _ ⟨rfl, AN35, cN35, CN35, rfl, HN35, rfl⟩
          refine WL.restQ 6 [1, 3, 4, 9, 11] (L' := [(1, .slice Al1 l1.length cl1), (3, .int .i64 a3), (4, .pointer (some ⟨b1, 0, none⟩)), (9, .slice AR130 t11.1.length cR130), (11, .slice AN35 (((([] : List Int) ++ l1) ++ t11.1) ++ l2).length cN35)]) (by kernel_rfl) ?_
          obtain ⟨v36, hv37, h⟩ := Option.bind_eq_some_iff.1 h
          replace hv37 := Option.some.inj hv37
          have Hn38 := HN35
          rw [hv37] at Hn38
          refine WP.reput 11 (v := .slice AN35 (((([] : List Int) ++ l1) ++ t11.1) ++ l2).length cN35) (v' := .slice AN35 v36.length cN35) (by kernel_rfl) (by subst hv37; rfl) ?_
          refine WP.pick [1, 3, 4, 9, 11] ?_
          refine WP.seqR ?_
          refine WL.pure 0 3 [1, 3, 4, 9, 11, 65, 67] (L' := [(1, .slice Al1 l1.length cl1), (3, .int .i64 a3), (4, .pointer (some ⟨b1, 0, none⟩)), (9, .slice AR130 t11.1.length cR130), (11, .slice AN35 v36.length cN35), (65, .slice AN35 v36.length cN35), (67, .int .i64 (l1.length : Int))]) (by kernel_rfl) (by decide) ?_
          rw [Option.bind_eq_some_iff] at h
          obtain ⟨t39, ht40, h⟩ := h
          refine WL.op (op := .call { callee := (.value (.func 20)), args := #[(.tmp 65), (.tmp 67)], argTypes := #[29, 3] }) (ty := 40) (d := some 68) (g := none) (by kernel_rfl) (by kernel_rfl) (by kernel_rfl) (Does.call (Φ := fun v' G' Γ' => v' = .tuple #[.agg #[.int .i64 t39.1.f0, .int .i64 t39.1.f1, .int .i64 t39.1.f2, .int .i64 t39.1.f3, .string t39.1.f4], .int .i64 t39.2.1, .bool t39.2.2] ∧ G = G' ∧ CN35 :: CR130 :: [(b1, .cells #[.int .i64 a0.f0, .int .i64 a0.f1, .int .i64 a0.f2, .int .i64 a0.f3, .string a0.f4] 27 (0, 0))] :: Γ = Γ') (f := 20) (args := [.slice AN35 v36.length cN35, .int .i64 (l1.length : Int)]) (by kernel_rfl) (fun W hI => (Calls.lendH (Φ := fun v' N => v' = .tuple #[.agg #[.int .i64 t39.1.f0, .int .i64 t39.1.f1, .int .i64 t39.1.f2, .int .i64 t39.1.f3, .string t39.1.f4], .int .i64 t39.2.1, .bool t39.2.2] ∧ N = []) (H := []) (i := 0) rfl (Ow.nodup Hn38) hI (fun _ e l43 hI => by subst e; exact (((record_Read_calls (HT.mono l43) k v36 (l1.length : Int) AN35 cN35 (Hn38.rd l43) t39 ht40 hI)).mono fun _ _ hr => by obtain ⟨_, _, _, rfl, hd, hI⟩ := hr; obtain ⟨rfl, rfl, rfl⟩ := hd; exact ⟨_, _, _, rfl, ⟨[], ⟨rfl, rfl⟩, rfl, rfl⟩, hI⟩))).mono fun _ _ hr => by obtain ⟨_, _, _, rfl, ⟨_, hd, rfl, rfl⟩, hI⟩ := hr; obtain ⟨rfl, rfl⟩ := hd; exact ⟨_, _, _, rfl, ⟨rfl, rfl, rfl⟩, hI⟩)) ?_
          rintro _ _ _ ⟨rfl, rfl, rfl⟩
          refine WL.pure 4 8 [1, 3, 4, 9, 11, 69, 70, 71] (L' := [(1, .slice Al1 l1.length cl1), (3, .int .i64 a3), (4, .pointer (some ⟨b1, 0, none⟩)), (9, .slice AR130 t11.1.length cR130), (11, .slice AN35 v36.length cN35), (69, .agg #[.int .i64 t39.1.f0, .int .i64 t39.1.f1, .int .i64 t39.1.f2, .int .i64 t39.1.f3, .string t39.1.f4]), (70, .int .i64 t39.2.1), (71, .bool t39.2.2)]) (by kernel_rfl) (by decide) ?_
          refine WL.op (op := .alloc 27) (ty := 0) (d := some 12) (g := none) (by kernel_rfl) (by kernel_rfl) (by kernel_rfl) (Does.new (o := .cells #[.int .i64 0, .int .i64 0, .int .i64 0, .int .i64 0, .string (⟨#[]⟩ : ByteArray)] 27 (0, 0)) (v := fun r => .pointer (some ⟨r, 0, none⟩)) (fun r => by kernel_rfl)) ?_
          rintro _ _ _ ⟨b44, rfl, rfl, rfl⟩
          refine WL.op (op := .store 27 (.tmp 12) (.tmp 69)) (ty := 0) (d := none) (g := none) (by kernel_rfl) (by kernel_rfl) (by kernel_rfl) (Does.store_box (i := 0) (b := b44) (o := 0) (v := .agg #[.int .i64 t39.1.f0, .int .i64 t39.1.f1, .int .i64 t39.1.f2, .int .i64 t39.1.f3, .string t39.1.f4]) (by rfl) sz27 (by kernel_rfl) (by kernel_rfl) (by kernel_rfl) (Free.zero _) (Nat.le_of_ble_eq_true rfl) (cells' := #[.int .i64 t39.1.f0, .int .i64 t39.1.f1, .int .i64 t39.1.f2, .int .i64 t39.1.f3, .string t39.1.f4]) (by kernel_rfl)) ?_
          rintro _ _ _ ⟨rfl, rfl, rfl⟩
          refine WL.restQ 10 [1, 3, 4, 9, 11, 12, 13, 14] (L' := [(1, .slice Al1 l1.length cl1), (3, .int .i64 a3), (4, .pointer (some ⟨b1, 0, none⟩)), (9, .slice AR130 t11.1.length cR130), (11, .slice AN35 v36.length cN35), (12, .pointer (some ⟨b44, 0, none⟩)), (13, .int .i64 t39.2.1), (14, .bool t39.2.2)]) (by kernel_rfl) ?_
          refine WP.seqR ?_
          refine WL.pure 0 6 [1, 4, 9, 12, 13, 14, 73, 75, 76, 78] (L' := [(1, .slice Al1 l1.length cl1), (4, .pointer (some ⟨b1, 0, none⟩)), (9, .slice AR130 t11.1.length cR130), (12, .pointer (some ⟨b44, 0, none⟩)), (13, .int .i64 t39.2.1), (14, .bool t39.2.2), (73, .slice AN35 v36.length cN35), (75, .int .i64 (l1.length : Int)), (76, .int .i64 a3), (78, .int .i64 (t11.1.length : Int))]) (by kernel_rfl) (by decide) ?_
          rw [Option.bind_eq_some_iff] at h
          obtain ⟨t45, ht46, h⟩ := h
          refine WL.op (op := .call { callee := (.value (.func 24)), args := #[(.tmp 76), (.tmp 78)], argTypes := #[3, 3] }) (ty := 3) (d := some 79) (g := none) (by kernel_rfl) (by kernel_rfl) (by kernel_rfl) (Does.call (f := 24) (args := [.int .i64 a3, .int .i64 (t11.1.length : Int)]) (by kernel_rfl) (fun W hI => (grapevinelaw0_Low_calls a3 (t11.1.length : Int)  t45 ht46 hI))) ?_
          rintro _ _ _ ⟨rfl, rfl, rfl⟩
          refine WL.pure 7 8 [1, 4, 9, 12, 13, 14, 73, 80] (L' := [(1, .slice Al1 l1.length cl1), (4, .pointer (some ⟨b1, 0, none⟩)), (9, .slice AR130 t11.1.length cR130), (12, .pointer (some ⟨b44, 0, none⟩)), (13, .int .i64 t39.2.1), (14, .bool t39.2.2), (73, .slice AN35 v36.length cN35), (80, .int .i64 (IntKind.i64.wrap ((l1.length : Int) + t45)))]) (by kernel_rfl) (by decide) ?_
          by_cases hb49 : 0 ≤ (0 : Int) ∧ (0 : Int) ≤ (IntKind.i64.wrap ((l1.length : Int) + t45)) ∧ (IntKind.i64.wrap ((l1.length : Int) + t45)) ≤ (v36.length : Int)
          case neg => rw [if_neg hb49] at h; cases h
          rw [if_pos hb49] at h
          refine WL.freeze (i := 1) rfl (fun G50 hG51 hle52 => ?_)
          have Hz53 := Hn38.rd (by rw [← hG51]; exact hle52)
          rw [← hG51] at Hz53
          have Hm54 := Hl1.mono hle52
          have Hm55 := HR130.mono hle52
          refine WL.tellS (op := .slice 29 (.tmp 73) none (some (.tmp 80)) none) (ty := 29) (d := some 81) (g := none) (by kernel_rfl) (by kernel_rfl) (by kernel_rfl) (Hz53.slice (l := 0) (h := (IntKind.i64.wrap ((l1.length : Int) + t45))) (by kernel_rfl) rfl ⟨.i64, by kernel_rfl⟩ hb49.1 hb49.2.1 hb49.2.2 sl29) ?_
          rintro AP56 cP56 HP56
          refine WL.pure 9 11 [1, 4, 9, 12, 13, 14, 81, 83] (L' := [(1, .slice Al1 l1.length cl1), (4, .pointer (some ⟨b1, 0, none⟩)), (9, .slice AR130 t11.1.length cR130), (12, .pointer (some ⟨b44, 0, none⟩)), (13, .int .i64 t39.2.1), (14, .bool t39.2.2), (81, .slice AP56 ((v36.take (IntKind.i64.wrap ((l1.length : Int) + t45)).toNat).drop (0 : Int).toNat).length cP56), (83, .int .i64 (l1.length : Int))]) (by kernel_rfl) (by decide) ?_
          rw [Option.bind_eq_some_iff] at h
          obtain ⟨t57, ht58, h⟩ := h
          refine WL.op (op := .call { callee := (.value (.func 20)), args := #[(.tmp 81), (.tmp 83)], argTypes := #[29, 3] }) (ty := 40) (d := some 84) (g := none) (by kernel_rfl) (by kernel_rfl) (by kernel_rfl) (Does.call (f := 20) (args := [.slice AP56 ((v36.take (IntKind.i64.wrap ((l1.length : Int) + t45)).toNat).drop (0 : Int).toNat).length cP56, .int .i64 (l1.length : Int)]) (by kernel_rfl) (fun W hI => (record_Read_calls (HT.mono hle52) k ((v36.take (IntKind.i64.wrap ((l1.length : Int) + t45)).toNat).drop (0 : Int).toNat) (l1.length : Int) AP56 cP56 HP56 t57 ht58 hI))) ?_
          rintro _ _ _ ⟨rfl, rfl, rfl⟩
          refine WL.pure 12 16 [1, 4, 9, 12, 13, 14, 85, 86, 87] (L' := [(1, .slice Al1 l1.length cl1), (4, .pointer (some ⟨b1, 0, none⟩)), (9, .slice AR130 t11.1.length cR130), (12, .pointer (some ⟨b44, 0, none⟩)), (13, .int .i64 t39.2.1), (14, .bool t39.2.2), (85, .agg #[.int .i64 t57.1.f0, .int .i64 t57.1.f1, .int .i64 t57.1.f2, .int .i64 t57.1.f3, .string t57.1.f4]), (86, .int .i64 t57.2.1), (87, .bool t57.2.2)]) (by kernel_rfl) (by decide) ?_
          refine WL.op (op := .alloc 27) (ty := 0) (d := some 15) (g := none) (by kernel_rfl) (by kernel_rfl) (by kernel_rfl) (Does.new (o := .cells #[.int .i64 0, .int .i64 0, .int .i64 0, .int .i64 0, .string (⟨#[]⟩ : ByteArray)] 27 (0, 0)) (v := fun r => .pointer (some ⟨r, 0, none⟩)) (fun r => by kernel_rfl)) ?_
          rintro _ _ _ ⟨b61, rfl, rfl, rfl⟩
          refine WL.op (op := .store 27 (.tmp 15) (.tmp 85)) (ty := 0) (d := none) (g := none) (by kernel_rfl) (by kernel_rfl) (by kernel_rfl) (Does.store_box (i := 0) (b := b61) (o := 0) (v := .agg #[.int .i64 t57.1.f0, .int .i64 t57.1.f1, .int .i64 t57.1.f2, .int .i64 t57.1.f3, .string t57.1.f4]) (by rfl) sz27 (by kernel_rfl) (by kernel_rfl) (by kernel_rfl) (Free.zero _) (Nat.le_of_ble_eq_true rfl) (cells' := #[.int .i64 t57.1.f0, .int .i64 t57.1.f1, .int .i64 t57.1.f2, .int .i64 t57.1.f3, .string t57.1.f4]) (by kernel_rfl)) ?_
          rintro _ _ _ ⟨rfl, rfl, rfl⟩
          refine WL.restQ 18 [1, 4, 9, 12, 13, 14, 17] (L' := [(1, .slice Al1 l1.length cl1), (4, .pointer (some ⟨b1, 0, none⟩)), (9, .slice AR130 t11.1.length cR130), (12, .pointer (some ⟨b44, 0, none⟩)), (13, .int .i64 t39.2.1), (14, .bool t39.2.2), (17, .bool t57.2.2)]) (by kernel_rfl) ?_
          refine WP.dropAt 2 ?_
          refine WP.dropAt 0 ?_
          rw [Option.bind_eq_some_iff] at h
          obtain ⟨os62, h, hk63⟩ := h
          refine WP.cut (fun L' G' Γ' => ∃ s62 : Bool, s62 = os62 ∧ L' = [(8, .bool s62)] ∧ G50 = G' ∧ [(b44, .cells #[.int .i64 t39.1.f0, .int .i64 t39.1.f1, .int .i64 t39.1.f2, .int .i64 t39.1.f3, .string t39.1.f4] 27 (0, 0))] :: CR130 :: [(b1, .cells #[.int .i64 a0.f0, .int .i64 a0.f1, .int .i64 a0.f2, .int .i64 a0.f3, .string a0.f4] 27 (0, 0))] :: Γ = Γ') ?_ ?_
          · clear hk63
            refine WP.region ?_
            refine WL.tell (op := .load 27 (.tmp 12)) (ty := 27) (d := some 88) (g := none) (by kernel_rfl) (by kernel_rfl) (by kernel_rfl) (Tells.load_box (i := 0) (b := b44) (o := 0) (agg := true) (by rfl) ag27 (by kernel_rfl) (fun h => by cases h) (Nat.le_of_ble_eq_true rfl) (v := .agg #[.int .i64 t39.1.f0, .int .i64 t39.1.f1, .int .i64 t39.1.f2, .int .i64 t39.1.f3, .string t39.1.f4]) (by kernel_rfl)) ?_
            refine WL.tell (op := .load 27 (.tmp 4)) (ty := 27) (d := some 89) (g := none) (by kernel_rfl) (by kernel_rfl) (by kernel_rfl) (Tells.load_box (i := 2) (b := b1) (o := 0) (agg := true) (by rfl) ag27 (by kernel_rfl) (fun h => by cases h) (Nat.le_of_ble_eq_true rfl) (v := .agg #[.int .i64 a0.f0, .int .i64 a0.f1, .int .i64 a0.f2, .int .i64 a0.f3, .string a0.f4]) (by kernel_rfl)) ?_
            refine WL.tell (op := .binOp .eql 27 (.tmp 88) (.tmp 89) 27) (ty := 4) (d := some 90) (g := none) (by kernel_rfl) (by kernel_rfl) (by kernel_rfl) (Tells.eqAgg (xs := #[.int .i64 t39.1.f0, .int .i64 t39.1.f1, .int .i64 t39.1.f2, .int .i64 t39.1.f3, .string t39.1.f4]) (ys := #[.int .i64 a0.f0, .int .i64 a0.f1, .int .i64 a0.f2, .int .i64 a0.f3, .string a0.f4]) (ls := [.int t39.1.f0 a0.f0, .int t39.1.f1 a0.f1, .int t39.1.f2 a0.f2, .int t39.1.f3 a0.f3, .str t39.1.f4 a0.f4]) (by kernel_rfl) (by kernel_rfl) (by kernel_rfl) eg27) ?_
            refine WL.reput 90 (v := .bool ([.int t39.1.f0 a0.f0, .int t39.1.f1 a0.f1, .int t39.1.f2 a0.f2, .int t39.1.f3 a0.f3, .str t39.1.f4 a0.f4].all Lf.ok)) (v' := .bool (decide (t39.1 = a0))) (by kernel_rfl) (by exact (congrArg Value.bool (eqT27 t39.1 a0))) ?_
            refine WL.pure 3 4 [1, 9, 13, 14, 17, 91] (L' := [(1, .slice Al1 l1.length cl1), (9, .slice AR130 t11.1.length cR130), (13, .int .i64 t39.2.1), (14, .bool t39.2.2), (17, .bool t57.2.2), (91, .bool (decide (t39.1 = a0)))]) (by kernel_rfl) (by decide) ?_
            refine WL.split 91 (b := decide (t39.1 = a0)) (by kernel_rfl) (fun hc => ?_) (fun hc => ?_)
            · replace hc := of_decide_eq_true hc
              rw [if_pos hc] at h
              have hc64 := hc
              clear hc
              refine WL.pure 4 13 [14, 17, 100] (L' := [(14, .bool t39.2.2), (17, .bool t57.2.2), (100, .bool (t39.2.1 == (IntKind.i64.wrap ((l1.length : Int) + (t11.1.length : Int)))))]) (by kernel_rfl) (by decide) ?_
              refine WL.split 100 (b := (t39.2.1 == (IntKind.i64.wrap ((l1.length : Int) + (t11.1.length : Int))))) (by kernel_rfl) (fun hc => ?_) (fun hc => ?_)
              · replace hc := eq_of_beq hc
                rw [if_pos hc] at h
                have hc65 := hc
                clear hc
                refine WL.pure 13 16 [17, 103] (L' := [(17, .bool t57.2.2), (103, .bool t39.2.2)]) (by kernel_rfl) (by decide) ?_
                refine WL.split 103 (b := t39.2.2) (by kernel_rfl) (fun hc => ?_) (fun hc => ?_)
                · replace hc := hc
                  rw [if_pos hc] at h
                  have hc66 := hc
                  clear hc
                  refine WL.pure 16 20 [107] (L' := [(107, .bool (!t57.2.2))]) (by kernel_rfl) (by decide) ?_
                  refine WL.split 107 (b := (!t57.2.2)) (by kernel_rfl) (fun hc => ?_) (fun hc => ?_)
                  · replace hc := hc
                    rw [if_pos hc] at h
                    have hc67 := hc
                    clear hc
                    rw [Option.bind_eq_some_iff] at h
                    obtain ⟨t68, ht69, h⟩ := h
                    refine WL.op (op := .call { callee := (.value (.func 13)), args := #[], argTypes := #[] }) (ty := 4) (d := some 108) (g := some (19, true)) (by kernel_rfl) (by kernel_rfl) (by kernel_rfl) (Does.call (f := 13) (args := []) (by kernel_rfl) (fun W hI => (grapevinelaw4_awake_calls (HT.mono hle52) k   t68 ht69 hI))) ?_
                    rintro _ _ _ ⟨rfl, rfl, rfl⟩
                    refine WL.rest 21 [8] (L' := [(8, .bool t68)]) (by kernel_rfl) ?_
                    refine QP.pick [8] ?_
                    exact QP.meet ⟨_, Option.some.inj h, rfl, rfl, rfl⟩
                  · replace hc := (Bool.eq_false_iff.1 hc)
                    rw [if_neg hc] at h
                    have hc67 := hc
                    clear hc
                    refine WL.rest 20 [8] (L' := [(8, .bool false)]) (by kernel_rfl) ?_
                    refine QP.pick [8] ?_
                    exact QP.meet ⟨_, Option.some.inj h, rfl, rfl, rfl⟩
                · replace hc := (Bool.eq_false_iff.1 hc)
                  rw [if_neg hc] at h
                  have hc66 := hc
                  clear hc
                  refine WL.rest 16 [8] (L' := [(8, .bool false)]) (by kernel_rfl) ?_
                  refine QP.pick [8] ?_
                  exact QP.meet ⟨_, Option.some.inj h, rfl, rfl, rfl⟩
              · replace hc := ne_of_beq_false hc
                rw [if_neg hc] at h
                have hc65 := hc
                clear hc
                refine WL.rest 13 [8] (L' := [(8, .bool false)]) (by kernel_rfl) ?_
                refine QP.pick [8] ?_
                exact QP.meet ⟨_, Option.some.inj h, rfl, rfl, rfl⟩
            · replace hc := of_decide_eq_false hc
              rw [if_neg hc] at h
              have hc64 := hc
              clear hc
              refine WL.rest 4 [8] (L' := [(8, .bool false)]) (by kernel_rfl) ?_
              refine QP.pick [8] ?_
              exact QP.meet ⟨_, Option.some.inj h, rfl, rfl, rfl⟩
          · rintro _ _ _ ⟨s62, rfl, rfl, rfl, rfl⟩
            clear h
            replace h := hk63
            refine WP.ret ?_
            obtain rfl := Option.some.inj h
            refine QP.dropAt 2 ?_
            refine QP.dropAt 1 ?_
            refine QP.dropAt 0 ?_
            refine QP.lower hle52 ?_
            exact QP.returned [8] [.bool s62] _ (by kernel_rfl) (by kernel_rfl) (by kernel_rfl) (fun W hI => ⟨_, _, _, rfl, ⟨rfl, rfl, rfl⟩, hI⟩)
/-- The plain law. -/
def RecordBack_Pure : Prop := ∀ (a0 : T27) (l1 : List Int) (l2 : List Int) (a3 : Int), ((Lit.int .i64 a0.f0).wf = true ∧ (Lit.int .i64 a0.f1).wf = true ∧ (Lit.int .i64 a0.f2).wf = true ∧ (Lit.int .i64 a0.f3).wf = true ∧ a0.f4.size ≤ maxLen) → (l1.length ≤ maxLen ∧ ∀ z0 ∈ l1, (Lit.int .u8 z0).wf = true) → (l2.length ≤ maxLen ∧ ∀ z0 ∈ l2, (Lit.int .u8 z0).wf = true) → (Lit.int .i64 a3).wf = true → ∃ k, grapevinelaw4_RecordBack k a0 l1 l2 a3 = some true
end Go.Proofs.YtjmhhmljldjmjaaDoor.Gf
