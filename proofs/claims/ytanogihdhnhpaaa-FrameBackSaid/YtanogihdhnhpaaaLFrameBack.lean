/- Walks of Go functions: what each tells, as a plain Lean function, and that the Go code comes to it. Written by gg.py of this repo. -/
import Derived.Test.YtanogihdhnhpaaaT
import Derived.Test.YtanogihdhnhpaaaF0
import Derived.Test.YtanogihdhnhpaaaF1
namespace Go.Proofs.Ytanogihdhnhpaaa.Gf
open Go Go.Gg
set_option maxRecDepth 100000
set_option linter.unusedVariables false
set_option linter.unusedSimpArgs false

/-! ### grapevine/grapevinelaw6.FrameBack: function 8 -/
def grapevinelaw6_FrameBack (k : Nat) (a0 : Int) (l1 : List Int) (l2 : List Int) (a3 : Int) (a4 : Int) (a5 : Int) : Option Bool := ((if (l1.length : Int) > 300 then some true else some (decide ((l2.length : Int) > 300))).bind fun s1 => (if s1 = true then ((grapevinelaw6_awake k ).bind fun t5 => some t5) else ((frame_Lay k a0 l1).bind fun t7 => (if ¬ t7.2 = 0 then ((if (t7.1.length : Int) = 0 then (if t7.2 = 2 then ((grapevinelaw6_awake k ).bind fun t15 => some t15) else some false) else some false).bind fun s11 => some s11) else (if ¬ (t7.1.length : Int) = (IntKind.i64.wrap ((l1.length : Int) + 12)) then some false else (if ([] : List Int).length + l2.length ≤ 1073741824 then (if (([] : List Int) ++ l2).length + t7.1.length ≤ 1073741824 then ((frame_Next k ((([] : List Int) ++ l2) ++ t7.1) (l2.length : Int)).bind fun t22 => ((grapevinelaw0_Low a3 (t7.1.length : Int)).bind fun t26 => (if 0 ≤ (0 : Int) ∧ (0 : Int) ≤ t26 ∧ t26 ≤ (t7.1.length : Int) then ((frame_Next k ((t7.1.take t26.toNat).drop (0 : Int).toNat) 0).bind fun t37 => ((if ¬ t22.1 = a0 then some true else ((grapevinelaw0_SameBytes k t22.2.1 l1).bind fun t43 => (if (!t43) = true then some true else (if ¬ t22.2.2.1 = (IntKind.i64.wrap ((l2.length : Int) + (t7.1.length : Int))) then some true else (if (!t22.2.2.2) = true then some true else some t37.2.2.2))))).bind fun s40 => (if s40 = true then some false else ((grapevinelaw0_Low a4 (t7.1.length : Int)).bind fun t50 => ((if a5 = 0 then some true else (if t50 = 2 then some true else some (t50 == 3))).bind fun s52 => (if s52 = true then ((grapevinelaw6_awake k ).bind fun t57 => some t57) else (if ([] : List Int).length + t7.1.length ≤ 1073741824 then (if 0 ≤ t50 ∧ t50 < ((([] : List Int) ++ t7.1).length : Int) then (if 0 ≤ t50 ∧ t50 < ((([] : List Int) ++ t7.1).length : Int) then ((some ((([] : List Int) ++ t7.1).set t50.toNat (Go.bits .xor .u8 ((([] : List Int) ++ t7.1).getD t50.toNat 0) a5))).bind fun v65 => ((frame_Next k v65 0).bind fun t68 => ((if (!t68.2.2.2) = true then ((grapevinelaw6_awake k ).bind fun t75 => some t75) else some false).bind fun s72 => some s72))) else none) else none) else none))))))) else none))) else none) else none))))))
set_option maxHeartbeats 4000000 in
theorem grapevinelaw6_FrameBack_calls {B : World} {G : GMap} {Γ : List Chunk} {W : World} (k : Nat) (a0 : Int) (l1 : List Int) (l2 : List Int) (a3 : Int) (a4 : Int) (a5 : Int) (Al1 : Option Addr) (cl1 : Nat) (Hl1 : Rd (kInt .u8) G Al1 cl1 l1) (Al2 : Option Addr) (cl2 : Nat) (Hl2 : Rd (kInt .u8) G Al2 cl2 l2) (r : Bool) (h : grapevinelaw6_FrameBack k a0 l1 l2 a3 a4 a5 = some r) (hI : Inv B G (Γ) W) :
    Calls Try.prog 8 [.int .i64 a0, .slice Al1 l1.length cl1, .slice Al2 l2.length cl2, .int .i64 a3, .int .i64 a4, .int .u8 a5].toArray W (Ret B (fun v G' Γ' => v = .bool r ∧ G = G' ∧ Γ = Γ')) := by
  refine calls_WP (Γ := Γ) (G := G) (B := B) Try.func8 rfl (by kernel_rfl) ?_ hI
  clear hI
  unfold grapevinelaw6_FrameBack at h
  refine WP.seqP [0, 1, 2, 3, 4, 5] (L' := [(0, .int .i64 a0), (1, .slice Al1 l1.length cl1), (2, .slice Al2 l2.length cl2), (3, .int .i64 a3), (4, .int .i64 a4), (5, .int .u8 a5)]) (by kernel_rfl) ?_
  refine WP.seq ?_
  rw [Option.bind_eq_some_iff] at h
  obtain ⟨os1, h, hk2⟩ := h
  refine WP.cut (fun L' G' Γ' => ∃ s1 : Bool, s1 = os1 ∧ L' = [(0, .int .i64 a0), (1, .slice Al1 l1.length cl1), (2, .slice Al2 l2.length cl2), (3, .int .i64 a3), (4, .int .i64 a4), (5, .int .u8 a5), (35, .bool s1)] ∧ G = G' ∧ Γ = Γ') ?_ ?_
  · clear hk2
    refine WP.region ?_
    refine WL.pure 0 4 [0, 1, 2, 3, 4, 5, 31] (L' := [(0, .int .i64 a0), (1, .slice Al1 l1.length cl1), (2, .slice Al2 l2.length cl2), (3, .int .i64 a3), (4, .int .i64 a4), (5, .int .u8 a5), (31, .bool (decide ((l1.length : Int) > 300)))]) (by kernel_rfl) (by decide) ?_
    refine WL.split 31 (b := decide ((l1.length : Int) > 300)) (by kernel_rfl) (fun hc => ?_) (fun hc => ?_)
    · replace hc := of_decide_eq_true hc
      rw [if_pos hc] at h
      have hc3 := hc
      clear hc
      refine WL.rest 4 [0, 1, 2, 3, 4, 5, 35] (L' := [(0, .int .i64 a0), (1, .slice Al1 l1.length cl1), (2, .slice Al2 l2.length cl2), (3, .int .i64 a3), (4, .int .i64 a4), (5, .int .u8 a5), (35, .bool true)]) (by kernel_rfl) ?_
      refine QP.pick [0, 1, 2, 3, 4, 5, 35] ?_
      exact QP.meet ⟨_, Option.some.inj h, rfl, rfl, rfl⟩
    · replace hc := of_decide_eq_false hc
      rw [if_neg hc] at h
      have hc3 := hc
      clear hc
      refine WL.rest 4 [0, 1, 2, 3, 4, 5, 35] (L' := [(0, .int .i64 a0), (1, .slice Al1 l1.length cl1), (2, .slice Al2 l2.length cl2), (3, .int .i64 a3), (4, .int .i64 a4), (5, .int .u8 a5), (35, .bool (decide ((l2.length : Int) > 300)))]) (by kernel_rfl) ?_
      refine QP.pick [0, 1, 2, 3, 4, 5, 35] ?_
      exact QP.meet ⟨_, Option.some.inj h, rfl, rfl, rfl⟩
  · rintro _ _ _ ⟨s1, rfl, rfl, rfl, rfl⟩
    clear h
    replace h := hk2
    refine WP.cond (b := s1) (by kernel_rfl) (fun hc => ?_) (fun hc => ?_)
    · replace hc := hc
      rw [if_pos hc] at h
      have hc4 := hc
      clear hc
      refine WP.seqR ?_
      rw [Option.bind_eq_some_iff] at h
      obtain ⟨t5, ht6, h⟩ := h
      refine WL.op (op := .call { callee := (.value (.func 18)), args := #[], argTypes := #[] }) (ty := 4) (d := some 36) (g := none) (by kernel_rfl) (by kernel_rfl) (by kernel_rfl) (Does.call (f := 18) (args := []) (by kernel_rfl) (fun W hI => (grapevinelaw6_awake_calls k   t5 ht6 hI))) ?_
      rintro _ _ _ ⟨rfl, rfl, rfl⟩
      refine WL.restQ 1 [12] (L' := [(12, .bool t5)]) (by kernel_rfl) ?_
      refine WP.ret ?_
      refine QP.thenR ?_
      obtain rfl := Option.some.inj h
      exact QP.returned [12] [.bool t5] _ (by kernel_rfl) (by kernel_rfl) (by kernel_rfl) (fun W hI => ⟨_, _, _, rfl, ⟨rfl, rfl, rfl⟩, hI⟩)
    · replace hc := (Bool.eq_false_iff.1 hc)
      rw [if_neg hc] at h
      have hc4 := hc
      clear hc
      refine WP.skip ?_
      refine QP.next ?_
      refine WP.pick [0, 1, 2, 3, 4, 5] ?_
      refine WP.seqR ?_
      refine WL.pure 0 2 [0, 1, 2, 3, 4, 5, 38, 39] (L' := [(0, .int .i64 a0), (1, .slice Al1 l1.length cl1), (2, .slice Al2 l2.length cl2), (3, .int .i64 a3), (4, .int .i64 a4), (5, .int .u8 a5), (38, .int .i64 a0), (39, .slice Al1 l1.length cl1)]) (by kernel_rfl) (by decide) ?_
      rw [Option.bind_eq_some_iff] at h
      obtain ⟨t7, ht8, h⟩ := h
      refine WL.op (op := .call { callee := (.value (.func 19)), args := #[(.tmp 38), (.tmp 39)], argTypes := #[3, 32] }) (ty := 37) (d := some 40) (g := none) (by kernel_rfl) (by kernel_rfl) (by kernel_rfl) (Does.call (f := 19) (args := [.int .i64 a0, .slice Al1 l1.length cl1]) (by kernel_rfl) (fun W hI => (frame_Lay_calls k a0 l1 Al1 cl1 Hl1 t7 ht8 hI))) ?_
      rintro _ _ _ ⟨AR9, cR9, CR9, rfl, HR9, rfl, rfl⟩
      refine WL.restQ 3 [0, 1, 2, 3, 4, 5, 13, 14] (L' := [(0, .int .i64 a0), (1, .slice Al1 l1.length cl1), (2, .slice Al2 l2.length cl2), (3, .int .i64 a3), (4, .int .i64 a4), (5, .int .u8 a5), (13, .slice AR9 t7.1.length cR9), (14, .int .i64 t7.2)]) (by kernel_rfl) ?_
      refine WP.seq ?_
      refine WP.seqP [0, 1, 2, 3, 4, 5, 13, 14, 44] (L' := [(0, .int .i64 a0), (1, .slice Al1 l1.length cl1), (2, .slice Al2 l2.length cl2), (3, .int .i64 a3), (4, .int .i64 a4), (5, .int .u8 a5), (13, .slice AR9 t7.1.length cR9), (14, .int .i64 t7.2), (44, .bool (t7.2 != 0))]) (by kernel_rfl) ?_
      refine WP.cond (b := (t7.2 != 0)) (by kernel_rfl) (fun hc => ?_) (fun hc => ?_)
      · replace hc := (bne_iff_ne.1 hc)
        rw [if_pos hc] at h
        have hc10 := hc
        clear hc
        rw [Option.bind_eq_some_iff] at h
        obtain ⟨os11, h, hk12⟩ := h
        refine WP.cut (fun L' G' Γ' => ∃ s11 : Bool, s11 = os11 ∧ L' = [(12, .bool s11)] ∧ G = G' ∧ CR9 :: Γ = Γ') ?_ ?_
        · clear hk12
          refine WP.region ?_
          refine WL.pure 0 4 [14, 48] (L' := [(14, .int .i64 t7.2), (48, .bool ((t7.1.length : Int) == 0))]) (by kernel_rfl) (by decide) ?_
          refine WL.split 48 (b := ((t7.1.length : Int) == 0)) (by kernel_rfl) (fun hc => ?_) (fun hc => ?_)
          · replace hc := eq_of_beq hc
            rw [if_pos hc] at h
            have hc13 := hc
            clear hc
            refine WL.pure 4 8 [52] (L' := [(52, .bool (t7.2 == 2))]) (by kernel_rfl) (by decide) ?_
            refine WL.split 52 (b := (t7.2 == 2)) (by kernel_rfl) (fun hc => ?_) (fun hc => ?_)
            · replace hc := eq_of_beq hc
              rw [if_pos hc] at h
              have hc14 := hc
              clear hc
              rw [Option.bind_eq_some_iff] at h
              obtain ⟨t15, ht16, h⟩ := h
              refine WL.op (op := .call { callee := (.value (.func 18)), args := #[], argTypes := #[] }) (ty := 4) (d := some 53) (g := some (7, true)) (by kernel_rfl) (by kernel_rfl) (by kernel_rfl) (Does.call (f := 18) (args := []) (by kernel_rfl) (fun W hI => (grapevinelaw6_awake_calls k   t15 ht16 hI))) ?_
              rintro _ _ _ ⟨rfl, rfl, rfl⟩
              refine WL.rest 9 [12] (L' := [(12, .bool t15)]) (by kernel_rfl) ?_
              refine QP.pick [12] ?_
              exact QP.meet ⟨_, Option.some.inj h, rfl, rfl, rfl⟩
            · replace hc := ne_of_beq_false hc
              rw [if_neg hc] at h
              have hc14 := hc
              clear hc
              refine WL.rest 8 [12] (L' := [(12, .bool false)]) (by kernel_rfl) ?_
              refine QP.pick [12] ?_
              exact QP.meet ⟨_, Option.some.inj h, rfl, rfl, rfl⟩
          · replace hc := ne_of_beq_false hc
            rw [if_neg hc] at h
            have hc13 := hc
            clear hc
            refine WL.rest 4 [12] (L' := [(12, .bool false)]) (by kernel_rfl) ?_
            refine QP.pick [12] ?_
            exact QP.meet ⟨_, Option.some.inj h, rfl, rfl, rfl⟩
        · rintro _ _ _ ⟨s11, rfl, rfl, rfl, rfl⟩
          clear h
          replace h := hk12
          refine WP.ret ?_
          refine QP.thenR ?_
          obtain rfl := Option.some.inj h
          refine QP.dropAt 0 ?_
          exact QP.returned [12] [.bool s11] _ (by kernel_rfl) (by kernel_rfl) (by kernel_rfl) (fun W hI => ⟨_, _, _, rfl, ⟨rfl, rfl, rfl⟩, hI⟩)
      · replace hc := (not_not_intro (bne_eq_false_iff_eq.1 hc))
        rw [if_neg hc] at h
        have hc10 := hc
        clear hc
        refine WP.skip ?_
        refine QP.next ?_
        refine WP.pick [0, 1, 2, 3, 4, 5, 13] ?_
        refine WP.seq ?_
        refine WP.seqP [0, 1, 2, 3, 4, 5, 13, 60] (L' := [(0, .int .i64 a0), (1, .slice Al1 l1.length cl1), (2, .slice Al2 l2.length cl2), (3, .int .i64 a3), (4, .int .i64 a4), (5, .int .u8 a5), (13, .slice AR9 t7.1.length cR9), (60, .bool ((t7.1.length : Int) != (IntKind.i64.wrap ((l1.length : Int) + 12))))]) (by kernel_rfl) ?_
        refine WP.cond (b := ((t7.1.length : Int) != (IntKind.i64.wrap ((l1.length : Int) + 12)))) (by kernel_rfl) (fun hc => ?_) (fun hc => ?_)
        · replace hc := (bne_iff_ne.1 hc)
          rw [if_pos hc] at h
          have hc17 := hc
          clear hc
          refine WP.seqP [12] (L' := [(12, .bool false)]) (by kernel_rfl) ?_
          refine WP.ret ?_
          refine QP.thenR ?_
          obtain rfl := Option.some.inj h
          refine QP.dropAt 0 ?_
          exact QP.returned [12] [.bool false] _ (by kernel_rfl) (by kernel_rfl) (by kernel_rfl) (fun W hI => ⟨_, _, _, rfl, ⟨rfl, rfl, rfl⟩, hI⟩)
        · replace hc := (not_not_intro (bne_eq_false_iff_eq.1 hc))
          rw [if_neg hc] at h
          have hc17 := hc
          clear hc
          refine WP.skip ?_
          refine QP.next ?_
          refine WP.pick [0, 1, 2, 3, 4, 5, 13] ?_
          refine WP.seqR ?_
          refine WL.pure 0 1 [0, 1, 2, 3, 4, 5, 13, 62] (L' := [(0, .int .i64 a0), (1, .slice Al1 l1.length cl1), (2, .slice Al2 l2.length cl2), (3, .int .i64 a3), (4, .int .i64 a4), (5, .int .u8 a5), (13, .slice AR9 t7.1.length cR9), (62, .slice Al2 l2.length cl2)]) (by kernel_rfl) (by decide) ?_
          refine WL.addNil ?_
          by_cases hb18 : ([] : List Int).length + l2.length ≤ 1073741824
          case neg => rw [if_neg hb18] at h; cases h
          rw [if_pos hb18] at h
          refine WL.op (op := .call { callee := (.builtin .append), args := #[(.const (.slice none 0 0)), (.tmp 62)], argTypes := #[32, 32] }) (ty := 32) (d := some 63) (g := none) (by kernel_rfl) (by kernel_rfl) (by kernel_rfl) (Ow.append (ys := l2) (v := .slice Al2 l2.length cl2) (Ow.nil (kInt .u8) G) (i := 0) rfl (by kernel_rfl) (by kernel_rfl) Hl2.src sl32 ze5 nt32 (by decide) hb18) ?_
          rintro _ _ _ ⟨rfl, AN19, cN19, CN19, rfl, HN19, rfl⟩
          refine WL.pure 2 3 [0, 1, 2, 3, 4, 5, 13, 63, 64] (L' := [(0, .int .i64 a0), (1, .slice Al1 l1.length cl1), (2, .slice Al2 l2.length cl2), (3, .int .i64 a3), (4, .int .i64 a4), (5, .int .u8 a5), (13, .slice AR9 t7.1.length cR9), (63, .slice AN19 (([] : List Int) ++ l2).length cN19), (64, .slice AR9 t7.1.length cR9)]) (by kernel_rfl) (by decide) ?_
          by_cases hb20 : (([] : List Int) ++ l2).length + t7.1.length ≤ 1073741824
          case neg => rw [if_neg hb20] at h; cases h
          rw [if_pos hb20] at h
          refine WL.op (op := .call { callee := (.builtin .append), args := #[(.tmp 63), (.tmp 64)], argTypes := #[32, 32] }) (ty := 32) (d := some 65) (g := none) (by kernel_rfl) (by kernel_rfl) (by kernel_rfl) (Ow.append (ys := t7.1) (v := .slice AR9 t7.1.length cR9) HN19 (i := 0) rfl (by kernel_rfl) (by kernel_rfl) (HR9.src (i := 1) rfl) sl32 ze5 nt32 (by decide) hb20) ?_
          rintro _ _ _ ⟨rfl, AN21, cN21, CN21, rfl, HN21, rfl⟩
          refine WL.pure 4 6 [0, 1, 2, 3, 4, 5, 13, 65, 67] (L' := [(0, .int .i64 a0), (1, .slice Al1 l1.length cl1), (2, .slice Al2 l2.length cl2), (3, .int .i64 a3), (4, .int .i64 a4), (5, .int .u8 a5), (13, .slice AR9 t7.1.length cR9), (65, .slice AN21 ((([] : List Int) ++ l2) ++ t7.1).length cN21), (67, .int .i64 (l2.length : Int))]) (by kernel_rfl) (by decide) ?_
          rw [Option.bind_eq_some_iff] at h
          obtain ⟨t22, ht23, h⟩ := h
          refine WL.op (op := .call { callee := (.value (.func 24)), args := #[(.tmp 65), (.tmp 67)], argTypes := #[32, 3] }) (ty := 45) (d := some 68) (g := none) (by kernel_rfl) (by kernel_rfl) (by kernel_rfl) (Does.call (Φ := fun v' G' Γ' => ∃ (AR24 : Option Addr), ∃ (cR24 : Nat), ∃ (CR24 : Chunk), v' = .tuple #[.int .i64 t22.1, .slice AR24 t22.2.1.length cR24, .int .i64 t22.2.2.1, .bool t22.2.2.2] ∧ Ow (kInt .u8) G AR24 cR24 t22.2.1 CR24 ∧ G = G' ∧ CR24 :: CN21 :: CR9 :: Γ = Γ') (f := 24) (args := [.slice AN21 ((([] : List Int) ++ l2) ++ t7.1).length cN21, .int .i64 (l2.length : Int)]) (by kernel_rfl) (fun W hI => (Calls.lendR (Φ := fun v' N => ∃ (AR24 : Option Addr), ∃ (cR24 : Nat), ∃ (CR24 : Chunk), v' = .tuple #[.int .i64 t22.1, .slice AR24 t22.2.1.length cR24, .int .i64 t22.2.2.1, .bool t22.2.2.2] ∧ Ow (kInt .u8) G AR24 cR24 t22.2.1 CR24 ∧ N = [CR24]) (i := 0) rfl (Ow.nodup HN21) hI (fun _ e l25 hI => by subst e; exact ((frame_Next_calls k ((([] : List Int) ++ l2) ++ t7.1) (l2.length : Int) AN21 cN21 (HN21.rd l25) t22 ht23 hI).mono fun _ _ hr => by obtain ⟨_, _, _, rfl, ⟨AR24, cR24, CR24, rfl, HR24, rfl, rfl⟩, hI⟩ := hr; exact ⟨_, _, _, rfl, ⟨[CR24], ⟨AR24, cR24, CR24, rfl, (HR24.flat (kInt_flat _)), rfl⟩, rfl, rfl⟩, hI⟩))).mono fun _ _ hr => by obtain ⟨_, _, _, rfl, ⟨_, ⟨AR24, cR24, CR24, rfl, HR24, rfl⟩, rfl, rfl⟩, hI⟩ := hr; exact ⟨_, _, _, rfl, ⟨AR24, cR24, CR24, rfl, HR24, rfl, rfl⟩, hI⟩)) ?_
          rintro _ _ _ ⟨AR24, cR24, CR24, rfl, HR24, rfl, rfl⟩
          refine WL.restQ 7 [0, 1, 2, 3, 4, 5, 13, 15, 16, 17, 18] (L' := [(0, .int .i64 a0), (1, .slice Al1 l1.length cl1), (2, .slice Al2 l2.length cl2), (3, .int .i64 a3), (4, .int .i64 a4), (5, .int .u8 a5), (13, .slice AR9 t7.1.length cR9), (15, .int .i64 t22.1), (16, .slice AR24 t22.2.1.length cR24), (17, .int .i64 t22.2.2.1), (18, .bool t22.2.2.2)]) (by kernel_rfl) ?_
          refine WP.seqR ?_
          refine WL.pure 0 4 [0, 1, 2, 4, 5, 13, 15, 16, 17, 18, 74, 75, 77] (L' := [(0, .int .i64 a0), (1, .slice Al1 l1.length cl1), (2, .slice Al2 l2.length cl2), (4, .int .i64 a4), (5, .int .u8 a5), (13, .slice AR9 t7.1.length cR9), (15, .int .i64 t22.1), (16, .slice AR24 t22.2.1.length cR24), (17, .int .i64 t22.2.2.1), (18, .bool t22.2.2.2), (74, .slice AR9 t7.1.length cR9), (75, .int .i64 a3), (77, .int .i64 (t7.1.length : Int))]) (by kernel_rfl) (by decide) ?_
          rw [Option.bind_eq_some_iff] at h
          obtain ⟨t26, ht27, h⟩ := h
          refine WL.op (op := .call { callee := (.value (.func 17)), args := #[(.tmp 75), (.tmp 77)], argTypes := #[3, 3] }) (ty := 3) (d := some 78) (g := none) (by kernel_rfl) (by kernel_rfl) (by kernel_rfl) (Does.call (f := 17) (args := [.int .i64 a3, .int .i64 (t7.1.length : Int)]) (by kernel_rfl) (fun W hI => (grapevinelaw0_Low_calls a3 (t7.1.length : Int)  t26 ht27 hI))) ?_
          rintro _ _ _ ⟨rfl, rfl, rfl⟩
          by_cases hb28 : 0 ≤ (0 : Int) ∧ (0 : Int) ≤ t26 ∧ t26 ≤ (t7.1.length : Int)
          case neg => rw [if_neg hb28] at h; cases h
          rw [if_pos hb28] at h
          refine WL.freeze (i := 2) rfl (fun G29 hG30 hle31 => ?_)
          have Hz32 := HR9.rd (by rw [← hG30]; exact hle31)
          rw [← hG30] at Hz32
          have Hm33 := Hl1.mono hle31
          have Hm34 := Hl2.mono hle31
          have Hm35 := HR24.mono hle31
          refine WL.tellS (op := .slice 32 (.tmp 74) none (some (.tmp 78)) none) (ty := 32) (d := some 79) (g := none) (by kernel_rfl) (by kernel_rfl) (by kernel_rfl) (Hz32.slice (l := 0) (h := t26) (by kernel_rfl) rfl ⟨.i64, by kernel_rfl⟩ hb28.1 hb28.2.1 hb28.2.2 sl32) ?_
          rintro AP36 cP36 HP36
          rw [Option.bind_eq_some_iff] at h
          obtain ⟨t37, ht38, h⟩ := h
          refine WL.op (op := .call { callee := (.value (.func 24)), args := #[(.tmp 79), (.const (.int .i64 0))], argTypes := #[32, 3] }) (ty := 45) (d := some 80) (g := none) (by kernel_rfl) (by kernel_rfl) (by kernel_rfl) (Does.call (f := 24) (args := [.slice AP36 ((t7.1.take t26.toNat).drop (0 : Int).toNat).length cP36, .int .i64 0]) (by kernel_rfl) (fun W hI => (frame_Next_calls k ((t7.1.take t26.toNat).drop (0 : Int).toNat) 0 AP36 cP36 HP36 t37 ht38 hI))) ?_
          rintro _ _ _ ⟨AR39, cR39, CR39, rfl, HR39, rfl, rfl⟩
          refine WL.restQ 7 [0, 1, 2, 4, 5, 13, 15, 16, 17, 18, 22] (L' := [(0, .int .i64 a0), (1, .slice Al1 l1.length cl1), (2, .slice Al2 l2.length cl2), (4, .int .i64 a4), (5, .int .u8 a5), (13, .slice AR9 t7.1.length cR9), (15, .int .i64 t22.1), (16, .slice AR24 t22.2.1.length cR24), (17, .int .i64 t22.2.2.1), (18, .bool t22.2.2.2), (22, .bool t37.2.2.2)]) (by kernel_rfl) ?_
          refine WP.seq ?_
          rw [Option.bind_eq_some_iff] at h
          obtain ⟨os40, h, hk41⟩ := h
          refine WP.cut (fun L' G' Γ' => ∃ s40 : Bool, s40 = os40 ∧ L' = [(4, .int .i64 a4), (5, .int .u8 a5), (13, .slice AR9 t7.1.length cR9), (109, .bool s40)] ∧ G29 = G' ∧ CR39 :: CR24 :: CN21 :: [] :: Γ = Γ') ?_ ?_
          · clear hk41
            refine WP.region ?_
            refine WL.pure 0 4 [1, 2, 4, 5, 13, 16, 17, 18, 22, 88] (L' := [(1, .slice Al1 l1.length cl1), (2, .slice Al2 l2.length cl2), (4, .int .i64 a4), (5, .int .u8 a5), (13, .slice AR9 t7.1.length cR9), (16, .slice AR24 t22.2.1.length cR24), (17, .int .i64 t22.2.2.1), (18, .bool t22.2.2.2), (22, .bool t37.2.2.2), (88, .bool (t22.1 != a0))]) (by kernel_rfl) (by decide) ?_
            refine WL.split 88 (b := (t22.1 != a0)) (by kernel_rfl) (fun hc => ?_) (fun hc => ?_)
            · replace hc := (bne_iff_ne.1 hc)
              rw [if_pos hc] at h
              have hc42 := hc
              clear hc
              refine WL.rest 4 [4, 5, 13, 109] (L' := [(4, .int .i64 a4), (5, .int .u8 a5), (13, .slice AR9 t7.1.length cR9), (109, .bool true)]) (by kernel_rfl) ?_
              refine QP.pick [4, 5, 13, 109] ?_
              exact QP.meet ⟨_, Option.some.inj h, rfl, rfl, rfl⟩
            · replace hc := (not_not_intro (bne_eq_false_iff_eq.1 hc))
              rw [if_neg hc] at h
              have hc42 := hc
              clear hc
              refine WL.pure 4 6 [2, 4, 5, 13, 17, 18, 22, 88, 89, 90] (L' := [(2, .slice Al2 l2.length cl2), (4, .int .i64 a4), (5, .int .u8 a5), (13, .slice AR9 t7.1.length cR9), (17, .int .i64 t22.2.2.1), (18, .bool t22.2.2.2), (22, .bool t37.2.2.2), (88, .bool false), (89, .slice AR24 t22.2.1.length cR24), (90, .slice Al1 l1.length cl1)]) (by kernel_rfl) (by decide) ?_
              rw [Option.bind_eq_some_iff] at h
              obtain ⟨t43, ht44, h⟩ := h
              refine WL.op (op := .call { callee := (.value (.func 21)), args := #[(.tmp 89), (.tmp 90)], argTypes := #[32, 32] }) (ty := 4) (d := some 91) (g := some (3, false)) (by kernel_rfl) (by kernel_rfl) (by kernel_rfl) (Does.call (Φ := fun v' G' Γ' => v' = .bool t43 ∧ G29 = G' ∧ CR39 :: CR24 :: CN21 :: [] :: Γ = Γ') (f := 21) (args := [.slice AR24 t22.2.1.length cR24, .slice Al1 l1.length cl1]) (by kernel_rfl) (fun W hI => Calls.lend (i := 1) rfl (Ow.nodup Hm35) hI (fun _ e l45 hI => by subst e; exact (grapevinelaw0_SameBytes_calls k t22.2.1 l1 AR24 cR24 (Hm35.rd l45) Al1 cl1 (Hm33.mono l45) t43 ht44 hI)))) ?_
              rintro _ _ _ ⟨rfl, rfl, rfl⟩
              refine WL.pure 7 10 [2, 4, 5, 13, 17, 18, 22, 94] (L' := [(2, .slice Al2 l2.length cl2), (4, .int .i64 a4), (5, .int .u8 a5), (13, .slice AR9 t7.1.length cR9), (17, .int .i64 t22.2.2.1), (18, .bool t22.2.2.2), (22, .bool t37.2.2.2), (94, .bool (!t43))]) (by kernel_rfl) (by decide) ?_
              refine WL.split 94 (b := (!t43)) (by kernel_rfl) (fun hc => ?_) (fun hc => ?_)
              · replace hc := hc
                rw [if_pos hc] at h
                have hc46 := hc
                clear hc
                refine WL.rest 10 [4, 5, 13, 109] (L' := [(4, .int .i64 a4), (5, .int .u8 a5), (13, .slice AR9 t7.1.length cR9), (109, .bool true)]) (by kernel_rfl) ?_
                refine QP.pick [4, 5, 13, 109] ?_
                exact QP.meet ⟨_, Option.some.inj h, rfl, rfl, rfl⟩
              · replace hc := (Bool.eq_false_iff.1 hc)
                rw [if_neg hc] at h
                have hc46 := hc
                clear hc
                refine WL.pure 10 19 [4, 5, 13, 18, 22, 103] (L' := [(4, .int .i64 a4), (5, .int .u8 a5), (13, .slice AR9 t7.1.length cR9), (18, .bool t22.2.2.2), (22, .bool t37.2.2.2), (103, .bool (t22.2.2.1 != (IntKind.i64.wrap ((l2.length : Int) + (t7.1.length : Int)))))]) (by kernel_rfl) (by decide) ?_
                refine WL.split 103 (b := (t22.2.2.1 != (IntKind.i64.wrap ((l2.length : Int) + (t7.1.length : Int))))) (by kernel_rfl) (fun hc => ?_) (fun hc => ?_)
                · replace hc := (bne_iff_ne.1 hc)
                  rw [if_pos hc] at h
                  have hc47 := hc
                  clear hc
                  refine WL.rest 19 [4, 5, 13, 109] (L' := [(4, .int .i64 a4), (5, .int .u8 a5), (13, .slice AR9 t7.1.length cR9), (109, .bool true)]) (by kernel_rfl) ?_
                  refine QP.pick [4, 5, 13, 109] ?_
                  exact QP.meet ⟨_, Option.some.inj h, rfl, rfl, rfl⟩
                · replace hc := (not_not_intro (bne_eq_false_iff_eq.1 hc))
                  rw [if_neg hc] at h
                  have hc47 := hc
                  clear hc
                  refine WL.pure 19 23 [4, 5, 13, 22, 107] (L' := [(4, .int .i64 a4), (5, .int .u8 a5), (13, .slice AR9 t7.1.length cR9), (22, .bool t37.2.2.2), (107, .bool (!t22.2.2.2))]) (by kernel_rfl) (by decide) ?_
                  refine WL.split 107 (b := (!t22.2.2.2)) (by kernel_rfl) (fun hc => ?_) (fun hc => ?_)
                  · replace hc := hc
                    rw [if_pos hc] at h
                    have hc48 := hc
                    clear hc
                    refine WL.rest 23 [4, 5, 13, 109] (L' := [(4, .int .i64 a4), (5, .int .u8 a5), (13, .slice AR9 t7.1.length cR9), (109, .bool true)]) (by kernel_rfl) ?_
                    refine QP.pick [4, 5, 13, 109] ?_
                    exact QP.meet ⟨_, Option.some.inj h, rfl, rfl, rfl⟩
                  · replace hc := (Bool.eq_false_iff.1 hc)
                    rw [if_neg hc] at h
                    have hc48 := hc
                    clear hc
                    refine WL.rest 23 [4, 5, 13, 109] (L' := [(4, .int .i64 a4), (5, .int .u8 a5), (13, .slice AR9 t7.1.length cR9), (109, .bool t37.2.2.2)]) (by kernel_rfl) ?_
                    refine QP.pick [4, 5, 13, 109] ?_
                    exact QP.meet ⟨_, Option.some.inj h, rfl, rfl, rfl⟩
          · rintro _ _ _ ⟨s40, rfl, rfl, rfl, rfl⟩
            clear h
            replace h := hk41
            refine WP.cond (b := s40) (by kernel_rfl) (fun hc => ?_) (fun hc => ?_)
            · replace hc := hc
              rw [if_pos hc] at h
              have hc49 := hc
              clear hc
              refine WP.seqP [12] (L' := [(12, .bool false)]) (by kernel_rfl) ?_
              refine WP.ret ?_
              refine QP.thenR ?_
              obtain rfl := Option.some.inj h
              refine QP.dropAt 3 ?_
              refine QP.dropAt 2 ?_
              refine QP.dropAt 1 ?_
              refine QP.dropAt 0 ?_
              refine QP.lower hle31 ?_
              exact QP.returned [12] [.bool false] _ (by kernel_rfl) (by kernel_rfl) (by kernel_rfl) (fun W hI => ⟨_, _, _, rfl, ⟨rfl, rfl, rfl⟩, hI⟩)
            · replace hc := (Bool.eq_false_iff.1 hc)
              rw [if_neg hc] at h
              have hc49 := hc
              clear hc
              refine WP.skip ?_
              refine QP.next ?_
              refine WP.pick [4, 5, 13] ?_
              refine WP.seqR ?_
              refine WL.pure 0 3 [4, 5, 13, 110, 112] (L' := [(4, .int .i64 a4), (5, .int .u8 a5), (13, .slice AR9 t7.1.length cR9), (110, .int .i64 a4), (112, .int .i64 (t7.1.length : Int))]) (by kernel_rfl) (by decide) ?_
              rw [Option.bind_eq_some_iff] at h
              obtain ⟨t50, ht51, h⟩ := h
              refine WL.op (op := .call { callee := (.value (.func 17)), args := #[(.tmp 110), (.tmp 112)], argTypes := #[3, 3] }) (ty := 3) (d := some 113) (g := none) (by kernel_rfl) (by kernel_rfl) (by kernel_rfl) (Does.call (f := 17) (args := [.int .i64 a4, .int .i64 (t7.1.length : Int)]) (by kernel_rfl) (fun W hI => (grapevinelaw0_Low_calls a4 (t7.1.length : Int)  t50 ht51 hI))) ?_
              rintro _ _ _ ⟨rfl, rfl, rfl⟩
              refine WL.restQ 4 [4, 5, 13] (L' := [(4, .int .i64 t50), (5, .int .u8 a5), (13, .slice AR9 t7.1.length cR9)]) (by kernel_rfl) ?_
              refine WP.seq ?_
              rw [Option.bind_eq_some_iff] at h
              obtain ⟨os52, h, hk53⟩ := h
              refine WP.cut (fun L' G' Γ' => ∃ s52 : Bool, s52 = os52 ∧ L' = [(4, .int .i64 t50), (5, .int .u8 a5), (13, .slice AR9 t7.1.length cR9), (123, .bool s52)] ∧ G29 = G' ∧ CR39 :: CR24 :: CN21 :: [] :: Γ = Γ') ?_ ?_
              · clear hk53
                refine WP.region ?_
                refine WL.pure 0 3 [4, 5, 13, 116] (L' := [(4, .int .i64 t50), (5, .int .u8 a5), (13, .slice AR9 t7.1.length cR9), (116, .bool (a5 == 0))]) (by kernel_rfl) (by decide) ?_
                refine WL.split 116 (b := (a5 == 0)) (by kernel_rfl) (fun hc => ?_) (fun hc => ?_)
                · replace hc := eq_of_beq hc
                  rw [if_pos hc] at h
                  have hc54 := hc
                  clear hc
                  refine WL.rest 3 [4, 5, 13, 123] (L' := [(4, .int .i64 t50), (5, .int .u8 a5), (13, .slice AR9 t7.1.length cR9), (123, .bool true)]) (by kernel_rfl) ?_
                  refine QP.pick [4, 5, 13, 123] ?_
                  exact QP.meet ⟨_, Option.some.inj h, rfl, rfl, rfl⟩
                · replace hc := ne_of_beq_false hc
                  rw [if_neg hc] at h
                  have hc54 := hc
                  clear hc
                  refine WL.pure 3 7 [4, 5, 13, 120] (L' := [(4, .int .i64 t50), (5, .int .u8 a5), (13, .slice AR9 t7.1.length cR9), (120, .bool (t50 == 2))]) (by kernel_rfl) (by decide) ?_
                  refine WL.split 120 (b := (t50 == 2)) (by kernel_rfl) (fun hc => ?_) (fun hc => ?_)
                  · replace hc := eq_of_beq hc
                    rw [if_pos hc] at h
                    have hc55 := hc
                    clear hc
                    refine WL.rest 7 [4, 5, 13, 123] (L' := [(4, .int .i64 t50), (5, .int .u8 a5), (13, .slice AR9 t7.1.length cR9), (123, .bool true)]) (by kernel_rfl) ?_
                    refine QP.pick [4, 5, 13, 123] ?_
                    exact QP.meet ⟨_, Option.some.inj h, rfl, rfl, rfl⟩
                  · replace hc := ne_of_beq_false hc
                    rw [if_neg hc] at h
                    have hc55 := hc
                    clear hc
                    refine WL.rest 7 [4, 5, 13, 123] (L' := [(4, .int .i64 t50), (5, .int .u8 a5), (13, .slice AR9 t7.1.length cR9), (123, .bool (t50 == 3))]) (by kernel_rfl) ?_
                    refine QP.pick [4, 5, 13, 123] ?_
                    exact QP.meet ⟨_, Option.some.inj h, rfl, rfl, rfl⟩
              · rintro _ _ _ ⟨s52, rfl, rfl, rfl, rfl⟩
                clear h
                replace h := hk53
                refine WP.cond (b := s52) (by kernel_rfl) (fun hc => ?_) (fun hc => ?_)
                · replace hc := hc
                  rw [if_pos hc] at h
                  have hc56 := hc
                  clear hc
                  refine WP.seqR ?_
                  rw [Option.bind_eq_some_iff] at h
                  obtain ⟨t57, ht58, h⟩ := h
                  refine WL.op (op := .call { callee := (.value (.func 18)), args := #[], argTypes := #[] }) (ty := 4) (d := some 124) (g := none) (by kernel_rfl) (by kernel_rfl) (by kernel_rfl) (Does.call (f := 18) (args := []) (by kernel_rfl) (fun W hI => (grapevinelaw6_awake_calls k   t57 ht58 hI))) ?_
                  rintro _ _ _ ⟨rfl, rfl, rfl⟩
                  refine WL.restQ 1 [12] (L' := [(12, .bool t57)]) (by kernel_rfl) ?_
                  refine WP.ret ?_
                  refine QP.thenR ?_
                  obtain rfl := Option.some.inj h
                  refine QP.dropAt 3 ?_
                  refine QP.dropAt 2 ?_
                  refine QP.dropAt 1 ?_
                  refine QP.dropAt 0 ?_
                  refine QP.lower hle31 ?_
                  exact QP.returned [12] [.bool t57] _ (by kernel_rfl) (by kernel_rfl) (by kernel_rfl) (fun W hI => ⟨_, _, _, rfl, ⟨rfl, rfl, rfl⟩, hI⟩)
                · replace hc := (Bool.eq_false_iff.1 hc)
                  rw [if_neg hc] at h
                  have hc56 := hc
                  clear hc
                  refine WP.skip ?_
                  refine QP.next ?_
                  refine WP.pick [4, 5, 13] ?_
                  refine WP.seqR ?_
                  refine WL.pure 0 1 [4, 5, 125] (L' := [(4, .int .i64 t50), (5, .int .u8 a5), (125, .slice AR9 t7.1.length cR9)]) (by kernel_rfl) (by decide) ?_
                  refine WL.addNil ?_
                  by_cases hb59 : ([] : List Int).length + t7.1.length ≤ 1073741824
                  case neg => rw [if_neg hb59] at h; cases h
                  rw [if_pos hb59] at h
                  refine WL.op (op := .call { callee := (.builtin .append), args := #[(.const (.slice none 0 0)), (.tmp 125)], argTypes := #[32, 32] }) (ty := 32) (d := some 126) (g := none) (by kernel_rfl) (by kernel_rfl) (by kernel_rfl) (Ow.append (ys := t7.1) (v := .slice AR9 t7.1.length cR9) (Ow.nil (kInt .u8) G29) (i := 0) rfl (by kernel_rfl) (by kernel_rfl) Hz32.src sl32 ze5 nt32 (by decide) hb59) ?_
                  rintro _ _ _ ⟨rfl, AN60, cN60, CN60, rfl, HN60, rfl⟩
                  refine WL.restQ 2 [4, 5, 23] (L' := [(4, .int .i64 t50), (5, .int .u8 a5), (23, .slice AN60 (([] : List Int) ++ t7.1).length cN60)]) (by kernel_rfl) ?_
                  refine WP.seqR ?_
                  refine WL.pure 0 4 [5, 23, 127, 128, 129, 130] (L' := [(5, .int .u8 a5), (23, .slice AN60 (([] : List Int) ++ t7.1).length cN60), (127, .slice AN60 (([] : List Int) ++ t7.1).length cN60), (128, .int .i64 t50), (129, .slice AN60 (([] : List Int) ++ t7.1).length cN60), (130, .int .i64 t50)]) (by kernel_rfl) (by decide) ?_
                  by_cases hb61 : 0 ≤ t50 ∧ t50 < ((([] : List Int) ++ t7.1).length : Int)
                  case neg => rw [if_neg hb61] at h; cases h
                  rw [if_pos hb61] at h
                  refine WL.tell (op := .indexAddr 32 (.tmp 129) (.tmp 130)) (ty := 0) (d := some 131) (g := none) (by kernel_rfl) (by kernel_rfl) (by kernel_rfl) (Tells.indexAddr (A := AN60) (n := (([] : List Int) ++ t7.1).length) (c := cN60) (k := .i64) (j := t50) (by kernel_rfl) (by kernel_rfl) (HN60.isSome hb61.1 hb61.2) hb61.1 hb61.2 sl32) ?_
                  refine WL.tellE (op := .load 5 (.tmp 131)) (ty := 5) (d := some 132) (g := none) (by kernel_rfl) (by kernel_rfl) (by kernel_rfl) (HN60.load (i := 0) rfl (agg := false) hb61.1 hb61.2 0 ag5 (fun _ => rfl) (by kernel_rfl)) ?_
                  rintro _ rfl
                  refine WL.pure 6 8 [23, 127, 128, 134] (L' := [(23, .slice AN60 (([] : List Int) ++ t7.1).length cN60), (127, .slice AN60 (([] : List Int) ++ t7.1).length cN60), (128, .int .i64 t50), (134, .int .u8 (Go.bits .xor .u8 ((([] : List Int) ++ t7.1).getD t50.toNat 0) a5))]) (by kernel_rfl) (by decide) ?_
                  by_cases hb62 : 0 ≤ t50 ∧ t50 < ((([] : List Int) ++ t7.1).length : Int)
                  case neg => rw [if_neg hb62] at h; cases h
                  rw [if_pos hb62] at h
                  refine WL.tell (op := .indexAddr 32 (.tmp 127) (.tmp 128)) (ty := 0) (d := some 135) (g := none) (by kernel_rfl) (by kernel_rfl) (by kernel_rfl) (Tells.indexAddr (A := AN60) (n := (([] : List Int) ++ t7.1).length) (c := cN60) (k := .i64) (j := t50) (by kernel_rfl) (by kernel_rfl) (HN60.isSome hb62.1 hb62.2) hb62.1 hb62.2 sl32) ?_
                  refine WL.op (op := .store 5 (.tmp 135) (.tmp 134)) (ty := 0) (d := none) (g := none) (by kernel_rfl) (by kernel_rfl) (by kernel_rfl) (Ow.store HN60 (i := 0) rfl hb62.1 hb62.2 (z := (Go.bits .xor .u8 ((([] : List Int) ++ t7.1).getD t50.toNat 0) a5)) (v := .int .u8 (Go.bits .xor .u8 ((([] : List Int) ++ t7.1).getD t50.toNat 0) a5)) (by kernel_rfl) (by kernel_rfl) sz5 (by exact rfl)) ?_
                  rintro _ _ _ ⟨rfl, rfl, C63, Ho64, rfl⟩
                  refine WL.reput 23 (v := .slice AN60 (([] : List Int) ++ t7.1).length cN60) (v' := .slice AN60 ((([] : List Int) ++ t7.1).set t50.toNat (Go.bits .xor .u8 ((([] : List Int) ++ t7.1).getD t50.toNat 0) a5)).length cN60) (by kernel_rfl) (by rw [List.length_set]) ?_
                  refine WL.restQ 10 [23] (L' := [(23, .slice AN60 ((([] : List Int) ++ t7.1).set t50.toNat (Go.bits .xor .u8 ((([] : List Int) ++ t7.1).getD t50.toNat 0) a5)).length cN60)]) (by kernel_rfl) ?_
                  obtain ⟨v65, hv66, h⟩ := Option.bind_eq_some_iff.1 h
                  replace hv66 := Option.some.inj hv66
                  have Hn67 := Ho64
                  rw [hv66] at Hn67
                  refine WP.reput 23 (v := .slice AN60 ((([] : List Int) ++ t7.1).set t50.toNat (Go.bits .xor .u8 ((([] : List Int) ++ t7.1).getD t50.toNat 0) a5)).length cN60) (v' := .slice AN60 v65.length cN60) (by kernel_rfl) (by subst hv66; rfl) ?_
                  refine WP.pick [23] ?_
                  refine WP.seqR ?_
                  refine WL.pure 0 1 [137] (L' := [(137, .slice AN60 v65.length cN60)]) (by kernel_rfl) (by decide) ?_
                  rw [Option.bind_eq_some_iff] at h
                  obtain ⟨t68, ht69, h⟩ := h
                  refine WL.op (op := .call { callee := (.value (.func 24)), args := #[(.tmp 137), (.const (.int .i64 0))], argTypes := #[32, 3] }) (ty := 45) (d := some 138) (g := none) (by kernel_rfl) (by kernel_rfl) (by kernel_rfl) (Does.call (Φ := fun v' G' Γ' => ∃ (AR70 : Option Addr), ∃ (cR70 : Nat), ∃ (CR70 : Chunk), v' = .tuple #[.int .i64 t68.1, .slice AR70 t68.2.1.length cR70, .int .i64 t68.2.2.1, .bool t68.2.2.2] ∧ Ow (kInt .u8) G29 AR70 cR70 t68.2.1 CR70 ∧ G29 = G' ∧ CR70 :: C63 :: CR39 :: CR24 :: CN21 :: [] :: Γ = Γ') (f := 24) (args := [.slice AN60 v65.length cN60, .int .i64 0]) (by kernel_rfl) (fun W hI => (Calls.lendR (Φ := fun v' N => ∃ (AR70 : Option Addr), ∃ (cR70 : Nat), ∃ (CR70 : Chunk), v' = .tuple #[.int .i64 t68.1, .slice AR70 t68.2.1.length cR70, .int .i64 t68.2.2.1, .bool t68.2.2.2] ∧ Ow (kInt .u8) G29 AR70 cR70 t68.2.1 CR70 ∧ N = [CR70]) (i := 0) rfl (Ow.nodup Hn67) hI (fun _ e l71 hI => by subst e; exact ((frame_Next_calls k v65 0 AN60 cN60 (Hn67.rd l71) t68 ht69 hI).mono fun _ _ hr => by obtain ⟨_, _, _, rfl, ⟨AR70, cR70, CR70, rfl, HR70, rfl, rfl⟩, hI⟩ := hr; exact ⟨_, _, _, rfl, ⟨[CR70], ⟨AR70, cR70, CR70, rfl, (HR70.flat (kInt_flat _)), rfl⟩, rfl, rfl⟩, hI⟩))).mono fun _ _ hr => by obtain ⟨_, _, _, rfl, ⟨_, ⟨AR70, cR70, CR70, rfl, HR70, rfl⟩, rfl, rfl⟩, hI⟩ := hr; exact ⟨_, _, _, rfl, ⟨AR70, cR70, CR70, rfl, HR70, rfl, rfl⟩, hI⟩)) ?_
                  rintro _ _ _ ⟨AR70, cR70, CR70, rfl, HR70, rfl, rfl⟩
                  refine WL.restQ 2 [27] (L' := [(27, .bool t68.2.2.2)]) (by kernel_rfl) ?_
                  rw [Option.bind_eq_some_iff] at h
                  obtain ⟨os72, h, hk73⟩ := h
                  refine WP.cut (fun L' G' Γ' => ∃ s72 : Bool, s72 = os72 ∧ L' = [(12, .bool s72)] ∧ G29 = G' ∧ CR70 :: C63 :: CR39 :: CR24 :: CN21 :: [] :: Γ = Γ') ?_ ?_
                  · clear hk73
                    refine WP.region ?_
                    refine WL.pure 0 3 [145] (L' := [(145, .bool (!t68.2.2.2))]) (by kernel_rfl) (by decide) ?_
                    refine WL.split 145 (b := (!t68.2.2.2)) (by kernel_rfl) (fun hc => ?_) (fun hc => ?_)
                    · replace hc := hc
                      rw [if_pos hc] at h
                      have hc74 := hc
                      clear hc
                      rw [Option.bind_eq_some_iff] at h
                      obtain ⟨t75, ht76, h⟩ := h
                      refine WL.op (op := .call { callee := (.value (.func 18)), args := #[], argTypes := #[] }) (ty := 4) (d := some 146) (g := some (2, true)) (by kernel_rfl) (by kernel_rfl) (by kernel_rfl) (Does.call (f := 18) (args := []) (by kernel_rfl) (fun W hI => (grapevinelaw6_awake_calls k   t75 ht76 hI))) ?_
                      rintro _ _ _ ⟨rfl, rfl, rfl⟩
                      refine WL.rest 4 [12] (L' := [(12, .bool t75)]) (by kernel_rfl) ?_
                      refine QP.pick [12] ?_
                      exact QP.meet ⟨_, Option.some.inj h, rfl, rfl, rfl⟩
                    · replace hc := (Bool.eq_false_iff.1 hc)
                      rw [if_neg hc] at h
                      have hc74 := hc
                      clear hc
                      refine WL.rest 3 [12] (L' := [(12, .bool false)]) (by kernel_rfl) ?_
                      refine QP.pick [12] ?_
                      exact QP.meet ⟨_, Option.some.inj h, rfl, rfl, rfl⟩
                  · rintro _ _ _ ⟨s72, rfl, rfl, rfl, rfl⟩
                    clear h
                    replace h := hk73
                    refine WP.ret ?_
                    obtain rfl := Option.some.inj h
                    refine QP.dropAt 5 ?_
                    refine QP.dropAt 4 ?_
                    refine QP.dropAt 3 ?_
                    refine QP.dropAt 2 ?_
                    refine QP.dropAt 1 ?_
                    refine QP.dropAt 0 ?_
                    refine QP.lower hle31 ?_
                    exact QP.returned [12] [.bool s72] _ (by kernel_rfl) (by kernel_rfl) (by kernel_rfl) (fun W hI => ⟨_, _, _, rfl, ⟨rfl, rfl, rfl⟩, hI⟩)
/-- The plain law. -/
def FrameBack_Pure : Prop := ∀ (a0 : Int) (l1 : List Int) (l2 : List Int) (a3 : Int) (a4 : Int) (a5 : Int), (Lit.int .i64 a0).wf = true → (l1.length ≤ maxLen ∧ ∀ z0 ∈ l1, (Lit.int .u8 z0).wf = true) → (l2.length ≤ maxLen ∧ ∀ z0 ∈ l2, (Lit.int .u8 z0).wf = true) → (Lit.int .i64 a3).wf = true → (Lit.int .i64 a4).wf = true → (Lit.int .u8 a5).wf = true → ∃ k, grapevinelaw6_FrameBack k a0 l1 l2 a3 a4 a5 = some true
end Go.Proofs.Ytanogihdhnhpaaa.Gf
