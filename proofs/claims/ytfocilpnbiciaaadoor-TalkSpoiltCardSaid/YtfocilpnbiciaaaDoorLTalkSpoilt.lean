/- Walks of Go functions: what each tells, as a plain Lean function, and that the Go code comes to it. Written by gg.py of this repo. -/
import Derived.Test.YtfocilpnbiciaaaDoorT
import Derived.Test.YtfocilpnbiciaaaDoorF1
import Derived.Test.YtfocilpnbiciaaaDoorF2
import Derived.Test.YtfocilpnbiciaaaDoorF3
namespace Go.Proofs.YtfocilpnbiciaaaDoor.Gf
open Go Go.Gg
set_option maxRecDepth 100000
set_option linter.unusedVariables false
set_option linter.unusedSimpArgs false

/-! ### grapevine/grapevinelaw20.TalkSpoilt: function 8 -/
def grapevinelaw20_TalkSpoilt (k : Nat) (a0 : T54) (a1 : Int) (a2 : Int) (a3 : Int) : Option Bool := ((grapevinelaw20_great k a0).bind fun t2 => (if t2 = true then ((grapevinelaw20_awake k ).bind fun t7 => some t7) else ((talk_Lay k a0 a1).bind fun t11 => (if ¬ t11.2 = 0 then ((if (t11.1.length : Int) = 0 then (if t11.2 = 2 then ((grapevinelaw20_awake k ).bind fun t20 => some t20) else some false) else some false).bind fun s16 => some s16) else (if (t11.1.length : Int) = 0 then some false else ((talk_Read k t11.1 a1).bind fun t25 => ((grapevinelaw0_Low a2 (t11.1.length : Int)).bind fun t31 => (if 0 ≤ (0 : Int) ∧ (0 : Int) ≤ t31 ∧ t31 ≤ (t11.1.length : Int) then ((talk_Read k (t11.1.take t31.toNat) a1).bind fun t37 => (if ([] : List Int).length + t11.1.length ≤ 1073741824 then (if (([] : List Int) ++ t11.1).length + ([a3] : List Int).length ≤ 1073741824 then ((talk_Read k ((([] : List Int) ++ t11.1) ++ ([a3] : List Int)) a1).bind fun t50 => (if ([] : List Int).length + t11.1.length ≤ 1073741824 then (if 0 ≤ t31 ∧ t31 < ((([] : List Int) ++ t11.1).length : Int) then (if 0 ≤ t31 ∧ t31 < ((([] : List Int) ++ t11.1).length : Int) then ((some ((([] : List Int) ++ t11.1).set t31.toNat (Go.bits .xor .u8 ((([] : List Int) ++ t11.1).getD t31.toNat 0) a3))).bind fun v62 => ((talk_Read k v62 a1).bind fun t65 => ((if t25.2 = 0 then ((grapevinelaw0_SameMessage k t25.1 a0).bind fun t74 => (if t74 = true then (if t37.2 = 12 then (if t50.2 = 12 then (if a3 = 0 then ((grapevinelaw20_awake k ).bind fun t85 => some t85) else (if t65.2 = 12 then ((grapevinelaw20_awake k ).bind fun t90 => some t90) else some false)) else some false) else some false) else some false)) else some false).bind fun s71 => some s71))) else none) else none) else none)) else none) else none)) else none))))))))
set_option maxHeartbeats 4000000 in
theorem grapevinelaw20_TalkSpoilt_calls {B : World} {G : GMap} {Γ : List Chunk} {W : World} (HT : Tabs B G) (k : Nat) (a0 : T54) (a1 : Int) (a2 : Int) (a3 : Int) (Aa0_f3 : Option Addr) (ca0_f3 : Nat) (Ha0_f3 : Rd (kInt .i64) G Aa0_f3 ca0_f3 a0.f3) (Aa0_f4 : Option Addr) (ca0_f4 : Nat) (Ha0_f4 : Rd (kInt .i64) G Aa0_f4 ca0_f4 a0.f4) (Aa0_f5 : Option Addr) (ca0_f5 : Nat) (Ha0_f5 : Rd k39 G Aa0_f5 ca0_f5 a0.f5) (r : Bool) (h : grapevinelaw20_TalkSpoilt k a0 a1 a2 a3 = some r) (hI : Inv B G (Γ) W) :
    Calls Tryd.prog 8 [.agg #[.int .i64 a0.f0, .int .i64 a0.f1, .int .i64 a0.f2, .slice Aa0_f3 a0.f3.length ca0_f3, .slice Aa0_f4 a0.f4.length ca0_f4, .slice Aa0_f5 a0.f5.length ca0_f5], .int .i64 a1, .int .i64 a2, .int .u8 a3].toArray W (Ret B (fun v G' Γ' => v = .bool r ∧ G = G' ∧ Γ = Γ')) := by
  refine calls_WP (Γ := Γ) (G := G) (B := B) Tryd.func8 rfl (by kernel_rfl) ?_ hI
  clear hI
  unfold grapevinelaw20_TalkSpoilt at h
  refine WP.seqR ?_
  refine WL.op (op := .box 54 (.tmp 0)) (ty := 0) (d := some 4) (g := none) (by kernel_rfl) (by kernel_rfl) (by kernel_rfl) (Does.new (o := .cells #[.int .i64 a0.f0, .int .i64 a0.f1, .int .i64 a0.f2, .slice Aa0_f3 a0.f3.length ca0_f3, .slice Aa0_f4 a0.f4.length ca0_f4, .slice Aa0_f5 a0.f5.length ca0_f5] 54 (0, 0)) (v := fun r => .pointer (some ⟨r, 0, none⟩)) (fun r => by kernel_rfl)) ?_
  rintro _ _ _ ⟨b1, rfl, rfl, rfl⟩
  refine WL.restQ 1 [1, 2, 3, 4] (L' := [(1, .int .i64 a1), (2, .int .i64 a2), (3, .int .u8 a3), (4, .pointer (some ⟨b1, 0, none⟩))]) (by kernel_rfl) ?_
  refine WP.seq ?_
  refine WP.seqR ?_
  refine WL.tell (op := .load 54 (.tmp 4)) (ty := 54) (d := some 20) (g := none) (by kernel_rfl) (by kernel_rfl) (by kernel_rfl) (Tells.load_box (i := 0) (b := b1) (o := 0) (agg := true) (by rfl) ag54 (by kernel_rfl) (fun h => by cases h) (Nat.le_of_ble_eq_true rfl) (v := .agg #[.int .i64 a0.f0, .int .i64 a0.f1, .int .i64 a0.f2, .slice Aa0_f3 a0.f3.length ca0_f3, .slice Aa0_f4 a0.f4.length ca0_f4, .slice Aa0_f5 a0.f5.length ca0_f5]) (by kernel_rfl)) ?_
  rw [Option.bind_eq_some_iff] at h
  obtain ⟨t2, ht3, h⟩ := h
  refine WL.op (op := .call { callee := (.value (.func 24)), args := #[(.tmp 20)], argTypes := #[54] }) (ty := 4) (d := some 21) (g := none) (by kernel_rfl) (by kernel_rfl) (by kernel_rfl) (Does.call (f := 24) (args := [.agg #[.int .i64 a0.f0, .int .i64 a0.f1, .int .i64 a0.f2, .slice Aa0_f3 a0.f3.length ca0_f3, .slice Aa0_f4 a0.f4.length ca0_f4, .slice Aa0_f5 a0.f5.length ca0_f5]]) (by kernel_rfl) (fun W hI => (grapevinelaw20_great_calls k a0 Aa0_f3 ca0_f3 Ha0_f3 Aa0_f4 ca0_f4 Ha0_f4 Aa0_f5 ca0_f5 Ha0_f5 t2 ht3 hI))) ?_
  rintro _ _ _ ⟨rfl, rfl, rfl⟩
  refine WL.restQ 2 [1, 2, 3, 4, 21] (L' := [(1, .int .i64 a1), (2, .int .i64 a2), (3, .int .u8 a3), (4, .pointer (some ⟨b1, 0, none⟩)), (21, .bool t2)]) (by kernel_rfl) ?_
  refine WP.cond (b := t2) (by kernel_rfl) (fun hc => ?_) (fun hc => ?_)
  · replace hc := hc
    rw [if_pos hc] at h
    have hc6 := hc
    clear hc
    refine WP.seqR ?_
    rw [Option.bind_eq_some_iff] at h
    obtain ⟨t7, ht8, h⟩ := h
    refine WL.op (op := .call { callee := (.value (.func 25)), args := #[], argTypes := #[] }) (ty := 4) (d := some 22) (g := none) (by kernel_rfl) (by kernel_rfl) (by kernel_rfl) (Does.call (f := 25) (args := []) (by kernel_rfl) (fun W hI => (grapevinelaw20_awake_calls HT k   t7 ht8 hI))) ?_
    rintro _ _ _ ⟨rfl, rfl, rfl⟩
    refine WL.restQ 1 [8] (L' := [(8, .bool t7)]) (by kernel_rfl) ?_
    refine WP.dropAt 0 ?_
    refine WP.ret ?_
    refine QP.thenR ?_
    obtain rfl := Option.some.inj h
    exact QP.returned [8] [.bool t7] _ (by kernel_rfl) (by kernel_rfl) (by kernel_rfl) (fun W hI => ⟨_, _, _, rfl, ⟨rfl, rfl, rfl⟩, hI⟩)
  · replace hc := (Bool.eq_false_iff.1 hc)
    rw [if_neg hc] at h
    have hc6 := hc
    clear hc
    refine WP.skip ?_
    refine QP.next ?_
    refine WP.pick [1, 2, 3, 4] ?_
    refine WP.seqR ?_
    refine WL.tell (op := .load 54 (.tmp 4)) (ty := 54) (d := some 24) (g := none) (by kernel_rfl) (by kernel_rfl) (by kernel_rfl) (Tells.load_box (i := 0) (b := b1) (o := 0) (agg := true) (by rfl) ag54 (by kernel_rfl) (fun h => by cases h) (Nat.le_of_ble_eq_true rfl) (v := .agg #[.int .i64 a0.f0, .int .i64 a0.f1, .int .i64 a0.f2, .slice Aa0_f3 a0.f3.length ca0_f3, .slice Aa0_f4 a0.f4.length ca0_f4, .slice Aa0_f5 a0.f5.length ca0_f5]) (by kernel_rfl)) ?_
    refine WL.pure 1 2 [1, 2, 3, 4, 24, 25] (L' := [(1, .int .i64 a1), (2, .int .i64 a2), (3, .int .u8 a3), (4, .pointer (some ⟨b1, 0, none⟩)), (24, .agg #[.int .i64 a0.f0, .int .i64 a0.f1, .int .i64 a0.f2, .slice Aa0_f3 a0.f3.length ca0_f3, .slice Aa0_f4 a0.f4.length ca0_f4, .slice Aa0_f5 a0.f5.length ca0_f5]), (25, .int .i64 a1)]) (by kernel_rfl) (by decide) ?_
    rw [Option.bind_eq_some_iff] at h
    obtain ⟨t11, ht12, h⟩ := h
    refine WL.op (op := .call { callee := (.value (.func 26)), args := #[(.tmp 24), (.tmp 25)], argTypes := #[54, 3] }) (ty := 44) (d := some 26) (g := none) (by kernel_rfl) (by kernel_rfl) (by kernel_rfl) (Does.call (f := 26) (args := [.agg #[.int .i64 a0.f0, .int .i64 a0.f1, .int .i64 a0.f2, .slice Aa0_f3 a0.f3.length ca0_f3, .slice Aa0_f4 a0.f4.length ca0_f4, .slice Aa0_f5 a0.f5.length ca0_f5], .int .i64 a1]) (by kernel_rfl) (fun W hI => (talk_Lay_calls HT k a0 a1 Aa0_f3 ca0_f3 Ha0_f3 Aa0_f4 ca0_f4 Ha0_f4 Aa0_f5 ca0_f5 Ha0_f5 t11 ht12 hI))) ?_
    rintro _ _ _ ⟨AR130, cR130, CR130, rfl, HR130, rfl, rfl⟩
    refine WL.restQ 3 [1, 2, 3, 4, 9, 10] (L' := [(1, .int .i64 a1), (2, .int .i64 a2), (3, .int .u8 a3), (4, .pointer (some ⟨b1, 0, none⟩)), (9, .slice AR130 t11.1.length cR130), (10, .int .i64 t11.2)]) (by kernel_rfl) ?_
    refine WP.seq ?_
    refine WP.seqP [1, 2, 3, 4, 9, 10, 30] (L' := [(1, .int .i64 a1), (2, .int .i64 a2), (3, .int .u8 a3), (4, .pointer (some ⟨b1, 0, none⟩)), (9, .slice AR130 t11.1.length cR130), (10, .int .i64 t11.2), (30, .bool (t11.2 != 0))]) (by kernel_rfl) ?_
    refine WP.cond (b := (t11.2 != 0)) (by kernel_rfl) (fun hc => ?_) (fun hc => ?_)
    · replace hc := (bne_iff_ne.1 hc)
      rw [if_pos hc] at h
      have hc15 := hc
      clear hc
      rw [Option.bind_eq_some_iff] at h
      obtain ⟨os16, h, hk17⟩ := h
      refine WP.cut (fun L' G' Γ' => ∃ s16 : Bool, s16 = os16 ∧ L' = [(8, .bool s16)] ∧ G = G' ∧ Γ = Γ') ?_ ?_
      · clear hk17
        refine WP.region ?_
        refine WL.pure 0 4 [10, 34] (L' := [(10, .int .i64 t11.2), (34, .bool ((t11.1.length : Int) == 0))]) (by kernel_rfl) (by decide) ?_
        refine WL.split 34 (b := ((t11.1.length : Int) == 0)) (by kernel_rfl) (fun hc => ?_) (fun hc => ?_)
        · replace hc := eq_of_beq hc
          rw [if_pos hc] at h
          have hc18 := hc
          clear hc
          refine WL.pure 4 8 [38] (L' := [(38, .bool (t11.2 == 2))]) (by kernel_rfl) (by decide) ?_
          refine WL.split 38 (b := (t11.2 == 2)) (by kernel_rfl) (fun hc => ?_) (fun hc => ?_)
          · replace hc := eq_of_beq hc
            rw [if_pos hc] at h
            have hc19 := hc
            clear hc
            rw [Option.bind_eq_some_iff] at h
            obtain ⟨t20, ht21, h⟩ := h
            refine WL.op (op := .call { callee := (.value (.func 25)), args := #[], argTypes := #[] }) (ty := 4) (d := some 39) (g := some (7, true)) (by kernel_rfl) (by kernel_rfl) (by kernel_rfl) (Does.call (f := 25) (args := []) (by kernel_rfl) (fun W hI => (grapevinelaw20_awake_calls HT k   t20 ht21 hI))) ?_
            rintro _ _ _ ⟨rfl, rfl, rfl⟩
            refine WL.rest 9 [8] (L' := [(8, .bool t20)]) (by kernel_rfl) ?_
            refine QP.dropAt 1 ?_
            refine QP.dropAt 0 ?_
            refine QP.pick [8] ?_
            exact QP.meet ⟨_, Option.some.inj h, rfl, rfl, rfl⟩
          · replace hc := ne_of_beq_false hc
            rw [if_neg hc] at h
            have hc19 := hc
            clear hc
            refine WL.rest 8 [8] (L' := [(8, .bool false)]) (by kernel_rfl) ?_
            refine QP.dropAt 1 ?_
            refine QP.dropAt 0 ?_
            refine QP.pick [8] ?_
            exact QP.meet ⟨_, Option.some.inj h, rfl, rfl, rfl⟩
        · replace hc := ne_of_beq_false hc
          rw [if_neg hc] at h
          have hc18 := hc
          clear hc
          refine WL.rest 4 [8] (L' := [(8, .bool false)]) (by kernel_rfl) ?_
          refine QP.dropAt 1 ?_
          refine QP.dropAt 0 ?_
          refine QP.pick [8] ?_
          exact QP.meet ⟨_, Option.some.inj h, rfl, rfl, rfl⟩
      · rintro _ _ _ ⟨s16, rfl, rfl, rfl, rfl⟩
        clear h
        replace h := hk17
        refine WP.ret ?_
        refine QP.thenR ?_
        obtain rfl := Option.some.inj h
        exact QP.returned [8] [.bool s16] _ (by kernel_rfl) (by kernel_rfl) (by kernel_rfl) (fun W hI => ⟨_, _, _, rfl, ⟨rfl, rfl, rfl⟩, hI⟩)
    · replace hc := (not_not_intro (bne_eq_false_iff_eq.1 hc))
      rw [if_neg hc] at h
      have hc15 := hc
      clear hc
      refine WP.skip ?_
      refine QP.next ?_
      refine WP.pick [1, 2, 3, 4, 9] ?_
      refine WP.seq ?_
      refine WP.seqP [1, 2, 3, 4, 9, 43] (L' := [(1, .int .i64 a1), (2, .int .i64 a2), (3, .int .u8 a3), (4, .pointer (some ⟨b1, 0, none⟩)), (9, .slice AR130 t11.1.length cR130), (43, .bool ((t11.1.length : Int) == 0))]) (by kernel_rfl) ?_
      refine WP.cond (b := ((t11.1.length : Int) == 0)) (by kernel_rfl) (fun hc => ?_) (fun hc => ?_)
      · replace hc := eq_of_beq hc
        rw [if_pos hc] at h
        have hc24 := hc
        clear hc
        refine WP.seqP [8] (L' := [(8, .bool false)]) (by kernel_rfl) ?_
        refine WP.dropAt 1 ?_
        refine WP.dropAt 0 ?_
        refine WP.ret ?_
        refine QP.thenR ?_
        obtain rfl := Option.some.inj h
        exact QP.returned [8] [.bool false] _ (by kernel_rfl) (by kernel_rfl) (by kernel_rfl) (fun W hI => ⟨_, _, _, rfl, ⟨rfl, rfl, rfl⟩, hI⟩)
      · replace hc := ne_of_beq_false hc
        rw [if_neg hc] at h
        have hc24 := hc
        clear hc
        refine WP.skip ?_
        refine QP.next ?_
        refine WP.pick [1, 2, 3, 4, 9] ?_
        refine WP.seqR ?_
        refine WL.pure 0 2 [1, 2, 3, 4, 9, 45, 46] (L' := [(1, .int .i64 a1), (2, .int .i64 a2), (3, .int .u8 a3), (4, .pointer (some ⟨b1, 0, none⟩)), (9, .slice AR130 t11.1.length cR130), (45, .slice AR130 t11.1.length cR130), (46, .int .i64 a1)]) (by kernel_rfl) (by decide) ?_
        rw [Option.bind_eq_some_iff] at h
        obtain ⟨t25, ht26, h⟩ := h
        refine WL.op (op := .call { callee := (.value (.func 34)), args := #[(.tmp 45), (.tmp 46)], argTypes := #[22, 3] }) (ty := 64) (d := some 47) (g := none) (by kernel_rfl) (by kernel_rfl) (by kernel_rfl) (Does.call (Φ := fun v' G' Γ' => ∃ (AR270_0 : Option Addr), ∃ (cR270_0 : Nat), ∃ (CR270_0 : Chunk), ∃ (AR270_1 : Option Addr), ∃ (cR270_1 : Nat), ∃ (CR270_1 : Chunk), ∃ (AR270_2 : Option Addr), ∃ (cR270_2 : Nat), ∃ (CR270_2 : Chunk), v' = .tuple #[.agg #[.int .i64 t25.1.f0, .int .i64 t25.1.f1, .int .i64 t25.1.f2, .slice AR270_0 t25.1.f3.length cR270_0, .slice AR270_1 t25.1.f4.length cR270_1, .slice AR270_2 t25.1.f5.length cR270_2], .int .i64 t25.2] ∧ Ow (kInt .i64) G AR270_0 cR270_0 t25.1.f3 CR270_0 ∧ Ow (kInt .i64) G AR270_1 cR270_1 t25.1.f4 CR270_1 ∧ Ow k39 G AR270_2 cR270_2 t25.1.f5 CR270_2 ∧ G = G' ∧ CR270_0 :: CR270_1 :: CR270_2 :: CR130 :: [(b1, .cells #[.int .i64 a0.f0, .int .i64 a0.f1, .int .i64 a0.f2, .slice Aa0_f3 a0.f3.length ca0_f3, .slice Aa0_f4 a0.f4.length ca0_f4, .slice Aa0_f5 a0.f5.length ca0_f5] 54 (0, 0))] :: Γ = Γ') (f := 34) (args := [.slice AR130 t11.1.length cR130, .int .i64 a1]) (by kernel_rfl) (fun W hI => (Calls.lendN (Φ := fun v' N => ∃ (AR270_0 : Option Addr), ∃ (cR270_0 : Nat), ∃ (CR270_0 : Chunk), ∃ (AR270_1 : Option Addr), ∃ (cR270_1 : Nat), ∃ (CR270_1 : Chunk), ∃ (AR270_2 : Option Addr), ∃ (cR270_2 : Nat), ∃ (CR270_2 : Chunk), v' = .tuple #[.agg #[.int .i64 t25.1.f0, .int .i64 t25.1.f1, .int .i64 t25.1.f2, .slice AR270_0 t25.1.f3.length cR270_0, .slice AR270_1 t25.1.f4.length cR270_1, .slice AR270_2 t25.1.f5.length cR270_2], .int .i64 t25.2] ∧ Ow (kInt .i64) G AR270_0 cR270_0 t25.1.f3 CR270_0 ∧ Ow (kInt .i64) G AR270_1 cR270_1 t25.1.f4 CR270_1 ∧ Ow k39 G AR270_2 cR270_2 t25.1.f5 CR270_2 ∧ N = [CR270_0, CR270_1, CR270_2]) (H := []) (i := 0) rfl hI (fun _ e l29 nl29 hI => by subst e; exact (((talk_Read_calls (HT.mono l29) k t11.1 a1 AR130 cR130 (HR130.rdN l29 nl29) t25 ht26 hI)).mono fun _ _ hr => by obtain ⟨_, _, _, rfl, hd, hI⟩ := hr; obtain ⟨AR270_0, cR270_0, CR270_0, AR270_1, cR270_1, CR270_1, AR270_2, cR270_2, CR270_2, rfl, HR270_0, HR270_1, HR270_2, rfl, rfl⟩ := hd; exact ⟨_, _, _, rfl, ⟨[CR270_0, CR270_1, CR270_2], ⟨AR270_0, cR270_0, CR270_0, AR270_1, cR270_1, CR270_1, AR270_2, cR270_2, CR270_2, rfl, (HR270_0.flat (kInt_flat _)), (HR270_1.flat (kInt_flat _)), (HR270_2.flat (kFlat_flat _ _ _ _)), rfl⟩, rfl, rfl⟩, hI⟩))).mono fun _ _ hr => by obtain ⟨_, _, _, rfl, ⟨_, hd, rfl, rfl⟩, hI⟩ := hr; obtain ⟨AR270_0, cR270_0, CR270_0, AR270_1, cR270_1, CR270_1, AR270_2, cR270_2, CR270_2, rfl, HR270_0, HR270_1, HR270_2, rfl⟩ := hd; exact ⟨_, _, _, rfl, ⟨AR270_0, cR270_0, CR270_0, AR270_1, cR270_1, CR270_1, AR270_2, cR270_2, CR270_2, rfl, HR270_0, HR270_1, HR270_2, rfl, rfl⟩, hI⟩)) ?_
        rintro _ _ _ ⟨AR270_0, cR270_0, CR270_0, AR270_1, cR270_1, CR270_1, AR270_2, cR270_2, CR270_2, rfl, HR270_0, HR270_1, HR270_2, rfl, rfl⟩
        refine WL.pure 3 6 [1, 2, 3, 4, 9, 48, 49] (L' := [(1, .int .i64 a1), (2, .int .i64 a2), (3, .int .u8 a3), (4, .pointer (some ⟨b1, 0, none⟩)), (9, .slice AR130 t11.1.length cR130), (48, .agg #[.int .i64 t25.1.f0, .int .i64 t25.1.f1, .int .i64 t25.1.f2, .slice AR270_0 t25.1.f3.length cR270_0, .slice AR270_1 t25.1.f4.length cR270_1, .slice AR270_2 t25.1.f5.length cR270_2]), (49, .int .i64 t25.2)]) (by kernel_rfl) (by decide) ?_
        refine WL.op (op := .alloc 54) (ty := 0) (d := some 11) (g := none) (by kernel_rfl) (by kernel_rfl) (by kernel_rfl) (Does.new (o := .cells #[.int .i64 0, .int .i64 0, .int .i64 0, .slice none 0 0, .slice none 0 0, .slice none 0 0] 54 (0, 0)) (v := fun r => .pointer (some ⟨r, 0, none⟩)) (fun r => by kernel_rfl)) ?_
        rintro _ _ _ ⟨b30, rfl, rfl, rfl⟩
        refine WL.op (op := .store 54 (.tmp 11) (.tmp 48)) (ty := 0) (d := none) (g := none) (by kernel_rfl) (by kernel_rfl) (by kernel_rfl) (Does.store_box (i := 0) (b := b30) (o := 0) (v := .agg #[.int .i64 t25.1.f0, .int .i64 t25.1.f1, .int .i64 t25.1.f2, .slice AR270_0 t25.1.f3.length cR270_0, .slice AR270_1 t25.1.f4.length cR270_1, .slice AR270_2 t25.1.f5.length cR270_2]) (by rfl) sz54 (by kernel_rfl) (by kernel_rfl) (by kernel_rfl) (Free.zero _) (Nat.le_of_ble_eq_true rfl) (cells' := #[.int .i64 t25.1.f0, .int .i64 t25.1.f1, .int .i64 t25.1.f2, .slice AR270_0 t25.1.f3.length cR270_0, .slice AR270_1 t25.1.f4.length cR270_1, .slice AR270_2 t25.1.f5.length cR270_2]) (by kernel_rfl)) ?_
        rintro _ _ _ ⟨rfl, rfl, rfl⟩
        refine WL.restQ 8 [1, 2, 3, 4, 9, 11, 12] (L' := [(1, .int .i64 a1), (2, .int .i64 a2), (3, .int .u8 a3), (4, .pointer (some ⟨b1, 0, none⟩)), (9, .slice AR130 t11.1.length cR130), (11, .pointer (some ⟨b30, 0, none⟩)), (12, .int .i64 t25.2)]) (by kernel_rfl) ?_
        refine WP.seqR ?_
        refine WL.pure 0 3 [1, 2, 3, 4, 9, 11, 12, 50, 52] (L' := [(1, .int .i64 a1), (2, .int .i64 a2), (3, .int .u8 a3), (4, .pointer (some ⟨b1, 0, none⟩)), (9, .slice AR130 t11.1.length cR130), (11, .pointer (some ⟨b30, 0, none⟩)), (12, .int .i64 t25.2), (50, .int .i64 a2), (52, .int .i64 (t11.1.length : Int))]) (by kernel_rfl) (by decide) ?_
        rw [Option.bind_eq_some_iff] at h
        obtain ⟨t31, ht32, h⟩ := h
        refine WL.op (op := .call { callee := (.value (.func 20)), args := #[(.tmp 50), (.tmp 52)], argTypes := #[3, 3] }) (ty := 3) (d := some 53) (g := none) (by kernel_rfl) (by kernel_rfl) (by kernel_rfl) (Does.call (f := 20) (args := [.int .i64 a2, .int .i64 (t11.1.length : Int)]) (by kernel_rfl) (fun W hI => (grapevinelaw0_Low_calls a2 (t11.1.length : Int)  t31 ht32 hI))) ?_
        rintro _ _ _ ⟨rfl, rfl, rfl⟩
        refine WL.restQ 4 [1, 2, 3, 4, 9, 11, 12] (L' := [(1, .int .i64 a1), (2, .int .i64 t31), (3, .int .u8 a3), (4, .pointer (some ⟨b1, 0, none⟩)), (9, .slice AR130 t11.1.length cR130), (11, .pointer (some ⟨b30, 0, none⟩)), (12, .int .i64 t25.2)]) (by kernel_rfl) ?_
        refine WP.seqR ?_
        refine WL.pure 0 2 [1, 2, 3, 4, 9, 11, 12, 55, 56] (L' := [(1, .int .i64 a1), (2, .int .i64 t31), (3, .int .u8 a3), (4, .pointer (some ⟨b1, 0, none⟩)), (9, .slice AR130 t11.1.length cR130), (11, .pointer (some ⟨b30, 0, none⟩)), (12, .int .i64 t25.2), (55, .slice AR130 t11.1.length cR130), (56, .int .i64 t31)]) (by kernel_rfl) (by decide) ?_
        by_cases hb35 : 0 ≤ (0 : Int) ∧ (0 : Int) ≤ t31 ∧ t31 ≤ (t11.1.length : Int)
        case neg => rw [if_neg hb35] at h; cases h
        rw [if_pos hb35] at h
        refine WL.tellW (op := .slice 22 (.tmp 55) none (some (.tmp 56)) none) (ty := 22) (d := some 57) (g := none) (by kernel_rfl) (by kernel_rfl) (by kernel_rfl) (Ow.sliceT HR130 (l := 0) (h := t31) (by kernel_rfl) rfl ⟨.i64, by kernel_rfl⟩ rfl hb35.2.1 hb35.2.2 sl22) ?_
        have Ho36 := HR130.cut t31.toNat
        refine WL.pure 3 4 [1, 2, 3, 4, 9, 11, 12, 57, 58] (L' := [(1, .int .i64 a1), (2, .int .i64 t31), (3, .int .u8 a3), (4, .pointer (some ⟨b1, 0, none⟩)), (9, .slice AR130 t11.1.length cR130), (11, .pointer (some ⟨b30, 0, none⟩)), (12, .int .i64 t25.2), (57, .slice AR130 (t11.1.take t31.toNat).length cR130), (58, .int .i64 a1)]) (by kernel_rfl) (by decide) ?_
        rw [Option.bind_eq_some_iff] at h
        obtain ⟨t37, ht38, h⟩ := h
        refine WL.op (op := .call { callee := (.value (.func 34)), args := #[(.tmp 57), (.tmp 58)], argTypes := #[22, 3] }) (ty := 64) (d := some 59) (g := none) (by kernel_rfl) (by kernel_rfl) (by kernel_rfl) (Does.call (Φ := fun v' G' Γ' => ∃ (AR390_0 : Option Addr), ∃ (cR390_0 : Nat), ∃ (CR390_0 : Chunk), ∃ (AR390_1 : Option Addr), ∃ (cR390_1 : Nat), ∃ (CR390_1 : Chunk), ∃ (AR390_2 : Option Addr), ∃ (cR390_2 : Nat), ∃ (CR390_2 : Chunk), v' = .tuple #[.agg #[.int .i64 t37.1.f0, .int .i64 t37.1.f1, .int .i64 t37.1.f2, .slice AR390_0 t37.1.f3.length cR390_0, .slice AR390_1 t37.1.f4.length cR390_1, .slice AR390_2 t37.1.f5.length cR390_2], .int .i64 t37.2] ∧ Ow (kInt .i64) G AR390_0 cR390_0 t37.1.f3 CR390_0 ∧ Ow (kInt .i64) G AR390_1 cR390_1 t37.1.f4 CR390_1 ∧ Ow k39 G AR390_2 cR390_2 t37.1.f5 CR390_2 ∧ G = G' ∧ CR390_0 :: CR390_1 :: CR390_2 :: [(b30, .cells #[.int .i64 t25.1.f0, .int .i64 t25.1.f1, .int .i64 t25.1.f2, .slice AR270_0 t25.1.f3.length cR270_0, .slice AR270_1 t25.1.f4.length cR270_1, .slice AR270_2 t25.1.f5.length cR270_2] 54 (0, 0))] :: CR270_0 :: CR270_1 :: CR270_2 :: CR130 :: [(b1, .cells #[.int .i64 a0.f0, .int .i64 a0.f1, .int .i64 a0.f2, .slice Aa0_f3 a0.f3.length ca0_f3, .slice Aa0_f4 a0.f4.length ca0_f4, .slice Aa0_f5 a0.f5.length ca0_f5] 54 (0, 0))] :: Γ = Γ') (f := 34) (args := [.slice AR130 (t11.1.take t31.toNat).length cR130, .int .i64 a1]) (by kernel_rfl) (fun W hI => (Calls.lendN (Φ := fun v' N => ∃ (AR390_0 : Option Addr), ∃ (cR390_0 : Nat), ∃ (CR390_0 : Chunk), ∃ (AR390_1 : Option Addr), ∃ (cR390_1 : Nat), ∃ (CR390_1 : Chunk), ∃ (AR390_2 : Option Addr), ∃ (cR390_2 : Nat), ∃ (CR390_2 : Chunk), v' = .tuple #[.agg #[.int .i64 t37.1.f0, .int .i64 t37.1.f1, .int .i64 t37.1.f2, .slice AR390_0 t37.1.f3.length cR390_0, .slice AR390_1 t37.1.f4.length cR390_1, .slice AR390_2 t37.1.f5.length cR390_2], .int .i64 t37.2] ∧ Ow (kInt .i64) G AR390_0 cR390_0 t37.1.f3 CR390_0 ∧ Ow (kInt .i64) G AR390_1 cR390_1 t37.1.f4 CR390_1 ∧ Ow k39 G AR390_2 cR390_2 t37.1.f5 CR390_2 ∧ N = [CR390_0, CR390_1, CR390_2]) (H := []) (i := 4) rfl hI (fun _ e l41 nl41 hI => by subst e; exact (((talk_Read_calls (HT.mono l41) k (t11.1.take t31.toNat) a1 AR130 cR130 (Ho36.rdN l41 nl41) t37 ht38 hI)).mono fun _ _ hr => by obtain ⟨_, _, _, rfl, hd, hI⟩ := hr; obtain ⟨AR390_0, cR390_0, CR390_0, AR390_1, cR390_1, CR390_1, AR390_2, cR390_2, CR390_2, rfl, HR390_0, HR390_1, HR390_2, rfl, rfl⟩ := hd; exact ⟨_, _, _, rfl, ⟨[CR390_0, CR390_1, CR390_2], ⟨AR390_0, cR390_0, CR390_0, AR390_1, cR390_1, CR390_1, AR390_2, cR390_2, CR390_2, rfl, (HR390_0.flat (kInt_flat _)), (HR390_1.flat (kInt_flat _)), (HR390_2.flat (kFlat_flat _ _ _ _)), rfl⟩, rfl, rfl⟩, hI⟩))).mono fun _ _ hr => by obtain ⟨_, _, _, rfl, ⟨_, hd, rfl, rfl⟩, hI⟩ := hr; obtain ⟨AR390_0, cR390_0, CR390_0, AR390_1, cR390_1, CR390_1, AR390_2, cR390_2, CR390_2, rfl, HR390_0, HR390_1, HR390_2, rfl⟩ := hd; exact ⟨_, _, _, rfl, ⟨AR390_0, cR390_0, CR390_0, AR390_1, cR390_1, CR390_1, AR390_2, cR390_2, CR390_2, rfl, HR390_0, HR390_1, HR390_2, rfl, rfl⟩, hI⟩)) ?_
        rintro _ _ _ ⟨AR390_0, cR390_0, CR390_0, AR390_1, cR390_1, CR390_1, AR390_2, cR390_2, CR390_2, rfl, HR390_0, HR390_1, HR390_2, rfl, rfl⟩
        refine WL.pure 5 8 [1, 2, 3, 4, 9, 11, 12, 60, 61] (L' := [(1, .int .i64 a1), (2, .int .i64 t31), (3, .int .u8 a3), (4, .pointer (some ⟨b1, 0, none⟩)), (9, .slice AR130 t11.1.length cR130), (11, .pointer (some ⟨b30, 0, none⟩)), (12, .int .i64 t25.2), (60, .agg #[.int .i64 t37.1.f0, .int .i64 t37.1.f1, .int .i64 t37.1.f2, .slice AR390_0 t37.1.f3.length cR390_0, .slice AR390_1 t37.1.f4.length cR390_1, .slice AR390_2 t37.1.f5.length cR390_2]), (61, .int .i64 t37.2)]) (by kernel_rfl) (by decide) ?_
        refine WL.op (op := .alloc 54) (ty := 0) (d := some 13) (g := none) (by kernel_rfl) (by kernel_rfl) (by kernel_rfl) (Does.new (o := .cells #[.int .i64 0, .int .i64 0, .int .i64 0, .slice none 0 0, .slice none 0 0, .slice none 0 0] 54 (0, 0)) (v := fun r => .pointer (some ⟨r, 0, none⟩)) (fun r => by kernel_rfl)) ?_
        rintro _ _ _ ⟨b42, rfl, rfl, rfl⟩
        refine WL.op (op := .store 54 (.tmp 13) (.tmp 60)) (ty := 0) (d := none) (g := none) (by kernel_rfl) (by kernel_rfl) (by kernel_rfl) (Does.store_box (i := 0) (b := b42) (o := 0) (v := .agg #[.int .i64 t37.1.f0, .int .i64 t37.1.f1, .int .i64 t37.1.f2, .slice AR390_0 t37.1.f3.length cR390_0, .slice AR390_1 t37.1.f4.length cR390_1, .slice AR390_2 t37.1.f5.length cR390_2]) (by rfl) sz54 (by kernel_rfl) (by kernel_rfl) (by kernel_rfl) (Free.zero _) (Nat.le_of_ble_eq_true rfl) (cells' := #[.int .i64 t37.1.f0, .int .i64 t37.1.f1, .int .i64 t37.1.f2, .slice AR390_0 t37.1.f3.length cR390_0, .slice AR390_1 t37.1.f4.length cR390_1, .slice AR390_2 t37.1.f5.length cR390_2]) (by kernel_rfl)) ?_
        rintro _ _ _ ⟨rfl, rfl, rfl⟩
        refine WL.restQ 10 [1, 2, 3, 4, 9, 11, 12, 14] (L' := [(1, .int .i64 a1), (2, .int .i64 t31), (3, .int .u8 a3), (4, .pointer (some ⟨b1, 0, none⟩)), (9, .slice AR130 t11.1.length cR130), (11, .pointer (some ⟨b30, 0, none⟩)), (12, .int .i64 t25.2), (14, .int .i64 t37.2)]) (by kernel_rfl) ?_
        refine WP.dropAt 3 ?_
        refine WP.dropAt 2 ?_
        refine WP.dropAt 1 ?_
        refine WP.dropAt 0 ?_
        refine WP.seqR ?_
        refine WL.pure 0 1 [1, 2, 3, 4, 9, 11, 12, 14, 63] (L' := [(1, .int .i64 a1), (2, .int .i64 t31), (3, .int .u8 a3), (4, .pointer (some ⟨b1, 0, none⟩)), (9, .slice AR130 t11.1.length cR130), (11, .pointer (some ⟨b30, 0, none⟩)), (12, .int .i64 t25.2), (14, .int .i64 t37.2), (63, .slice AR130 t11.1.length cR130)]) (by kernel_rfl) (by decide) ?_
        refine WL.addNil ?_
        by_cases hb43 : ([] : List Int).length + t11.1.length ≤ 1073741824
        case neg => rw [if_neg hb43] at h; cases h
        rw [if_pos hb43] at h
        refine WL.op (op := .call { callee := (.builtin .append), args := #[(.const (.slice none 0 0)), (.tmp 63)], argTypes := #[22, 22] }) (ty := 22) (d := some 64) (g := none) (by kernel_rfl) (by kernel_rfl) (by kernel_rfl) (Ow.append (ys := t11.1) (v := .slice AR130 t11.1.length cR130) (Ow.nil (kInt .u8) G) (i := 0) rfl (by kernel_rfl) (by kernel_rfl) (HR130.src (i := 5) rfl) sl22 ze5 nt22 (by decide) hb43) ?_
        rintro _ _ _ ⟨rfl, AN44, cN44, CN44, rfl, HN44, rfl⟩
        refine WL.pure 2 3 [1, 2, 3, 4, 9, 11, 12, 14, 64, 65] (L' := [(1, .int .i64 a1), (2, .int .i64 t31), (3, .int .u8 a3), (4, .pointer (some ⟨b1, 0, none⟩)), (9, .slice AR130 t11.1.length cR130), (11, .pointer (some ⟨b30, 0, none⟩)), (12, .int .i64 t25.2), (14, .int .i64 t37.2), (64, .slice AN44 (([] : List Int) ++ t11.1).length cN44), (65, .int .u8 a3)]) (by kernel_rfl) (by decide) ?_
        refine WL.op (op := .buildSlice 22 1 #[(0, (.tmp 65))]) (ty := 22) (d := some 66) (g := none) (by kernel_rfl) (by kernel_rfl) (by kernel_rfl) (Does.new (o := .cells #[.int .u8 a3] 5 (0, 0)) (v := fun r => .slice (some ⟨r, 0, none⟩) 1 1) (fun r => by kernel_rfl)) ?_
        rintro _ _ _ ⟨b45, rfl, rfl, rfl⟩
        have Ho47 : Ow (kInt .u8) G (some ⟨b45, 0, none⟩) 1 ([a3] : List Int) [(b45, .cells #[.int .u8 a3] 5 (0, 0))] := Ow.lit (kd := (kInt .u8)) (G := G) (b := b45) (T := 5) (xs := ([a3] : List Int)) (cs := [.int .u8 a3]) (.cons (x := a3) (cs := [.int .u8 a3]) (by exact rfl) .nil)
        by_cases hb48 : (([] : List Int) ++ t11.1).length + ([a3] : List Int).length ≤ 1073741824
        case neg => rw [if_neg hb48] at h; cases h
        rw [if_pos hb48] at h
        refine WL.op (op := .call { callee := (.builtin .append), args := #[(.tmp 64), (.tmp 66)], argTypes := #[22, 22] }) (ty := 22) (d := some 67) (g := none) (by kernel_rfl) (by kernel_rfl) (by kernel_rfl) (Ow.append (ys := ([a3] : List Int)) (v := .slice (some ⟨b45, 0, none⟩) ([a3] : List Int).length 1) HN44 (i := 1) rfl (by kernel_rfl) (by kernel_rfl) (Ho47.src (i := 0) rfl) sl22 ze5 nt22 (by decide) hb48) ?_
        rintro _ _ _ ⟨rfl, AN49, cN49, CN49, rfl, HN49, rfl⟩
        refine WL.pure 5 6 [1, 2, 3, 4, 9, 11, 12, 14, 67, 68] (L' := [(1, .int .i64 a1), (2, .int .i64 t31), (3, .int .u8 a3), (4, .pointer (some ⟨b1, 0, none⟩)), (9, .slice AR130 t11.1.length cR130), (11, .pointer (some ⟨b30, 0, none⟩)), (12, .int .i64 t25.2), (14, .int .i64 t37.2), (67, .slice AN49 ((([] : List Int) ++ t11.1) ++ ([a3] : List Int)).length cN49), (68, .int .i64 a1)]) (by kernel_rfl) (by decide) ?_
        rw [Option.bind_eq_some_iff] at h
        obtain ⟨t50, ht51, h⟩ := h
        refine WL.op (op := .call { callee := (.value (.func 34)), args := #[(.tmp 67), (.tmp 68)], argTypes := #[22, 3] }) (ty := 64) (d := some 69) (g := none) (by kernel_rfl) (by kernel_rfl) (by kernel_rfl) (Does.call (Φ := fun v' G' Γ' => ∃ (AR520_0 : Option Addr), ∃ (cR520_0 : Nat), ∃ (CR520_0 : Chunk), ∃ (AR520_1 : Option Addr), ∃ (cR520_1 : Nat), ∃ (CR520_1 : Chunk), ∃ (AR520_2 : Option Addr), ∃ (cR520_2 : Nat), ∃ (CR520_2 : Chunk), v' = .tuple #[.agg #[.int .i64 t50.1.f0, .int .i64 t50.1.f1, .int .i64 t50.1.f2, .slice AR520_0 t50.1.f3.length cR520_0, .slice AR520_1 t50.1.f4.length cR520_1, .slice AR520_2 t50.1.f5.length cR520_2], .int .i64 t50.2] ∧ Ow (kInt .i64) G AR520_0 cR520_0 t50.1.f3 CR520_0 ∧ Ow (kInt .i64) G AR520_1 cR520_1 t50.1.f4 CR520_1 ∧ Ow k39 G AR520_2 cR520_2 t50.1.f5 CR520_2 ∧ G = G' ∧ CR520_0 :: CR520_1 :: CR520_2 :: [(b45, .cells #[.int .u8 a3] 5 (0, 0))] :: CN49 :: [(b30, .cells #[.int .i64 t25.1.f0, .int .i64 t25.1.f1, .int .i64 t25.1.f2, .slice AR270_0 t25.1.f3.length cR270_0, .slice AR270_1 t25.1.f4.length cR270_1, .slice AR270_2 t25.1.f5.length cR270_2] 54 (0, 0))] :: CR270_0 :: CR270_1 :: CR270_2 :: CR130 :: [(b1, .cells #[.int .i64 a0.f0, .int .i64 a0.f1, .int .i64 a0.f2, .slice Aa0_f3 a0.f3.length ca0_f3, .slice Aa0_f4 a0.f4.length ca0_f4, .slice Aa0_f5 a0.f5.length ca0_f5] 54 (0, 0))] :: Γ = Γ') (f := 34) (args := [.slice AN49 ((([] : List Int) ++ t11.1) ++ ([a3] : List Int)).length cN49, .int .i64 a1]) (by kernel_rfl) (fun W hI => (Calls.lendN (Φ := fun v' N => ∃ (AR520_0 : Option Addr), ∃ (cR520_0 : Nat), ∃ (CR520_0 : Chunk), ∃ (AR520_1 : Option Addr), ∃ (cR520_1 : Nat), ∃ (CR520_1 : Chunk), ∃ (AR520_2 : Option Addr), ∃ (cR520_2 : Nat), ∃ (CR520_2 : Chunk), v' = .tuple #[.agg #[.int .i64 t50.1.f0, .int .i64 t50.1.f1, .int .i64 t50.1.f2, .slice AR520_0 t50.1.f3.length cR520_0, .slice AR520_1 t50.1.f4.length cR520_1, .slice AR520_2 t50.1.f5.length cR520_2], .int .i64 t50.2] ∧ Ow (kInt .i64) G AR520_0 cR520_0 t50.1.f3 CR520_0 ∧ Ow (kInt .i64) G AR520_1 cR520_1 t50.1.f4 CR520_1 ∧ Ow k39 G AR520_2 cR520_2 t50.1.f5 CR520_2 ∧ N = [CR520_0, CR520_1, CR520_2]) (H := []) (i := 1) rfl hI (fun _ e l54 nl54 hI => by subst e; exact (((talk_Read_calls (HT.mono l54) k ((([] : List Int) ++ t11.1) ++ ([a3] : List Int)) a1 AN49 cN49 (HN49.rdN l54 nl54) t50 ht51 hI)).mono fun _ _ hr => by obtain ⟨_, _, _, rfl, hd, hI⟩ := hr; obtain ⟨AR520_0, cR520_0, CR520_0, AR520_1, cR520_1, CR520_1, AR520_2, cR520_2, CR520_2, rfl, HR520_0, HR520_1, HR520_2, rfl, rfl⟩ := hd; exact ⟨_, _, _, rfl, ⟨[CR520_0, CR520_1, CR520_2], ⟨AR520_0, cR520_0, CR520_0, AR520_1, cR520_1, CR520_1, AR520_2, cR520_2, CR520_2, rfl, (HR520_0.flat (kInt_flat _)), (HR520_1.flat (kInt_flat _)), (HR520_2.flat (kFlat_flat _ _ _ _)), rfl⟩, rfl, rfl⟩, hI⟩))).mono fun _ _ hr => by obtain ⟨_, _, _, rfl, ⟨_, hd, rfl, rfl⟩, hI⟩ := hr; obtain ⟨AR520_0, cR520_0, CR520_0, AR520_1, cR520_1, CR520_1, AR520_2, cR520_2, CR520_2, rfl, HR520_0, HR520_1, HR520_2, rfl⟩ := hd; exact ⟨_, _, _, rfl, ⟨AR520_0, cR520_0, CR520_0, AR520_1, cR520_1, CR520_1, AR520_2, cR520_2, CR520_2, rfl, HR520_0, HR520_1, HR520_2, rfl, rfl⟩, hI⟩)) ?_
        rintro _ _ _ ⟨AR520_0, cR520_0, CR520_0, AR520_1, cR520_1, CR520_1, AR520_2, cR520_2, CR520_2, rfl, HR520_0, HR520_1, HR520_2, rfl, rfl⟩
        refine WL.pure 7 10 [1, 2, 3, 4, 9, 11, 12, 14, 70, 71] (L' := [(1, .int .i64 a1), (2, .int .i64 t31), (3, .int .u8 a3), (4, .pointer (some ⟨b1, 0, none⟩)), (9, .slice AR130 t11.1.length cR130), (11, .pointer (some ⟨b30, 0, none⟩)), (12, .int .i64 t25.2), (14, .int .i64 t37.2), (70, .agg #[.int .i64 t50.1.f0, .int .i64 t50.1.f1, .int .i64 t50.1.f2, .slice AR520_0 t50.1.f3.length cR520_0, .slice AR520_1 t50.1.f4.length cR520_1, .slice AR520_2 t50.1.f5.length cR520_2]), (71, .int .i64 t50.2)]) (by kernel_rfl) (by decide) ?_
        refine WL.op (op := .alloc 54) (ty := 0) (d := some 15) (g := none) (by kernel_rfl) (by kernel_rfl) (by kernel_rfl) (Does.new (o := .cells #[.int .i64 0, .int .i64 0, .int .i64 0, .slice none 0 0, .slice none 0 0, .slice none 0 0] 54 (0, 0)) (v := fun r => .pointer (some ⟨r, 0, none⟩)) (fun r => by kernel_rfl)) ?_
        rintro _ _ _ ⟨b55, rfl, rfl, rfl⟩
        refine WL.op (op := .store 54 (.tmp 15) (.tmp 70)) (ty := 0) (d := none) (g := none) (by kernel_rfl) (by kernel_rfl) (by kernel_rfl) (Does.store_box (i := 0) (b := b55) (o := 0) (v := .agg #[.int .i64 t50.1.f0, .int .i64 t50.1.f1, .int .i64 t50.1.f2, .slice AR520_0 t50.1.f3.length cR520_0, .slice AR520_1 t50.1.f4.length cR520_1, .slice AR520_2 t50.1.f5.length cR520_2]) (by rfl) sz54 (by kernel_rfl) (by kernel_rfl) (by kernel_rfl) (Free.zero _) (Nat.le_of_ble_eq_true rfl) (cells' := #[.int .i64 t50.1.f0, .int .i64 t50.1.f1, .int .i64 t50.1.f2, .slice AR520_0 t50.1.f3.length cR520_0, .slice AR520_1 t50.1.f4.length cR520_1, .slice AR520_2 t50.1.f5.length cR520_2]) (by kernel_rfl)) ?_
        rintro _ _ _ ⟨rfl, rfl, rfl⟩
        refine WL.restQ 12 [1, 2, 3, 4, 9, 11, 12, 14, 16] (L' := [(1, .int .i64 a1), (2, .int .i64 t31), (3, .int .u8 a3), (4, .pointer (some ⟨b1, 0, none⟩)), (9, .slice AR130 t11.1.length cR130), (11, .pointer (some ⟨b30, 0, none⟩)), (12, .int .i64 t25.2), (14, .int .i64 t37.2), (16, .int .i64 t50.2)]) (by kernel_rfl) ?_
        refine WP.dropAt 5 ?_
        refine WP.dropAt 4 ?_
        refine WP.dropAt 3 ?_
        refine WP.dropAt 2 ?_
        refine WP.dropAt 1 ?_
        refine WP.dropAt 0 ?_
        refine WP.seqR ?_
        refine WL.pure 0 1 [1, 2, 3, 4, 11, 12, 14, 16, 72] (L' := [(1, .int .i64 a1), (2, .int .i64 t31), (3, .int .u8 a3), (4, .pointer (some ⟨b1, 0, none⟩)), (11, .pointer (some ⟨b30, 0, none⟩)), (12, .int .i64 t25.2), (14, .int .i64 t37.2), (16, .int .i64 t50.2), (72, .slice AR130 t11.1.length cR130)]) (by kernel_rfl) (by decide) ?_
        refine WL.addNil ?_
        by_cases hb56 : ([] : List Int).length + t11.1.length ≤ 1073741824
        case neg => rw [if_neg hb56] at h; cases h
        rw [if_pos hb56] at h
        refine WL.op (op := .call { callee := (.builtin .append), args := #[(.const (.slice none 0 0)), (.tmp 72)], argTypes := #[22, 22] }) (ty := 22) (d := some 73) (g := none) (by kernel_rfl) (by kernel_rfl) (by kernel_rfl) (Ow.append (ys := t11.1) (v := .slice AR130 t11.1.length cR130) (Ow.nil (kInt .u8) G) (i := 0) rfl (by kernel_rfl) (by kernel_rfl) (HR130.src (i := 5) rfl) sl22 ze5 nt22 (by decide) hb56) ?_
        rintro _ _ _ ⟨rfl, AN57, cN57, CN57, rfl, HN57, rfl⟩
        refine WL.restQ 2 [1, 2, 3, 4, 11, 12, 14, 16, 17] (L' := [(1, .int .i64 a1), (2, .int .i64 t31), (3, .int .u8 a3), (4, .pointer (some ⟨b1, 0, none⟩)), (11, .pointer (some ⟨b30, 0, none⟩)), (12, .int .i64 t25.2), (14, .int .i64 t37.2), (16, .int .i64 t50.2), (17, .slice AN57 (([] : List Int) ++ t11.1).length cN57)]) (by kernel_rfl) ?_
        refine WP.dropAt 5 ?_
        refine WP.seqR ?_
        refine WL.pure 0 4 [1, 3, 4, 11, 12, 14, 16, 17, 74, 75, 76, 77] (L' := [(1, .int .i64 a1), (3, .int .u8 a3), (4, .pointer (some ⟨b1, 0, none⟩)), (11, .pointer (some ⟨b30, 0, none⟩)), (12, .int .i64 t25.2), (14, .int .i64 t37.2), (16, .int .i64 t50.2), (17, .slice AN57 (([] : List Int) ++ t11.1).length cN57), (74, .slice AN57 (([] : List Int) ++ t11.1).length cN57), (75, .int .i64 t31), (76, .slice AN57 (([] : List Int) ++ t11.1).length cN57), (77, .int .i64 t31)]) (by kernel_rfl) (by decide) ?_
        by_cases hb58 : 0 ≤ t31 ∧ t31 < ((([] : List Int) ++ t11.1).length : Int)
        case neg => rw [if_neg hb58] at h; cases h
        rw [if_pos hb58] at h
        refine WL.tell (op := .indexAddr 22 (.tmp 76) (.tmp 77)) (ty := 0) (d := some 78) (g := none) (by kernel_rfl) (by kernel_rfl) (by kernel_rfl) (Tells.indexAddr (A := AN57) (n := (([] : List Int) ++ t11.1).length) (c := cN57) (k := .i64) (j := t31) (by kernel_rfl) (by kernel_rfl) (HN57.isSome hb58.1 hb58.2) hb58.1 hb58.2 sl22) ?_
        refine WL.tellE (op := .load 5 (.tmp 78)) (ty := 5) (d := some 79) (g := none) (by kernel_rfl) (by kernel_rfl) (by kernel_rfl) (HN57.load (i := 0) rfl (agg := false) hb58.1 hb58.2 0 ag5 (fun _ => rfl) (by kernel_rfl)) ?_
        rintro _ rfl
        refine WL.pure 6 8 [1, 3, 4, 11, 12, 14, 16, 17, 74, 75, 81] (L' := [(1, .int .i64 a1), (3, .int .u8 a3), (4, .pointer (some ⟨b1, 0, none⟩)), (11, .pointer (some ⟨b30, 0, none⟩)), (12, .int .i64 t25.2), (14, .int .i64 t37.2), (16, .int .i64 t50.2), (17, .slice AN57 (([] : List Int) ++ t11.1).length cN57), (74, .slice AN57 (([] : List Int) ++ t11.1).length cN57), (75, .int .i64 t31), (81, .int .u8 (Go.bits .xor .u8 ((([] : List Int) ++ t11.1).getD t31.toNat 0) a3))]) (by kernel_rfl) (by decide) ?_
        by_cases hb59 : 0 ≤ t31 ∧ t31 < ((([] : List Int) ++ t11.1).length : Int)
        case neg => rw [if_neg hb59] at h; cases h
        rw [if_pos hb59] at h
        refine WL.tell (op := .indexAddr 22 (.tmp 74) (.tmp 75)) (ty := 0) (d := some 82) (g := none) (by kernel_rfl) (by kernel_rfl) (by kernel_rfl) (Tells.indexAddr (A := AN57) (n := (([] : List Int) ++ t11.1).length) (c := cN57) (k := .i64) (j := t31) (by kernel_rfl) (by kernel_rfl) (HN57.isSome hb59.1 hb59.2) hb59.1 hb59.2 sl22) ?_
        refine WL.op (op := .store 5 (.tmp 82) (.tmp 81)) (ty := 0) (d := none) (g := none) (by kernel_rfl) (by kernel_rfl) (by kernel_rfl) (Ow.store HN57 (i := 0) rfl hb59.1 hb59.2 (z := (Go.bits .xor .u8 ((([] : List Int) ++ t11.1).getD t31.toNat 0) a3)) (v := .int .u8 (Go.bits .xor .u8 ((([] : List Int) ++ t11.1).getD t31.toNat 0) a3)) (by kernel_rfl) (by kernel_rfl) sz5 (by exact rfl)) ?_
        rintro _ _ _ ⟨rfl, rfl, C60, Ho61, rfl⟩
        refine WL.reput 17 (v := .slice AN57 (([] : List Int) ++ t11.1).length cN57) (v' := .slice AN57 ((([] : List Int) ++ t11.1).set t31.toNat (Go.bits .xor .u8 ((([] : List Int) ++ t11.1).getD t31.toNat 0) a3)).length cN57) (by kernel_rfl) (by rw [List.length_set]) ?_
        refine WL.restQ 10 [1, 3, 4, 11, 12, 14, 16, 17] (L' := [(1, .int .i64 a1), (3, .int .u8 a3), (4, .pointer (some ⟨b1, 0, none⟩)), (11, .pointer (some ⟨b30, 0, none⟩)), (12, .int .i64 t25.2), (14, .int .i64 t37.2), (16, .int .i64 t50.2), (17, .slice AN57 ((([] : List Int) ++ t11.1).set t31.toNat (Go.bits .xor .u8 ((([] : List Int) ++ t11.1).getD t31.toNat 0) a3)).length cN57)]) (by kernel_rfl) ?_
        obtain ⟨v62, hv63, h⟩ := Option.bind_eq_some_iff.1 h
        replace hv63 := Option.some.inj hv63
        have Hn64 := Ho61
        rw [hv63] at Hn64
        refine WP.reput 17 (v := .slice AN57 ((([] : List Int) ++ t11.1).set t31.toNat (Go.bits .xor .u8 ((([] : List Int) ++ t11.1).getD t31.toNat 0) a3)).length cN57) (v' := .slice AN57 v62.length cN57) (by kernel_rfl) (by subst hv63; rfl) ?_
        refine WP.pick [1, 3, 4, 11, 12, 14, 16, 17] ?_
        refine WP.seqR ?_
        refine WL.pure 0 2 [3, 4, 11, 12, 14, 16, 84, 85] (L' := [(3, .int .u8 a3), (4, .pointer (some ⟨b1, 0, none⟩)), (11, .pointer (some ⟨b30, 0, none⟩)), (12, .int .i64 t25.2), (14, .int .i64 t37.2), (16, .int .i64 t50.2), (84, .slice AN57 v62.length cN57), (85, .int .i64 a1)]) (by kernel_rfl) (by decide) ?_
        rw [Option.bind_eq_some_iff] at h
        obtain ⟨t65, ht66, h⟩ := h
        refine WL.op (op := .call { callee := (.value (.func 34)), args := #[(.tmp 84), (.tmp 85)], argTypes := #[22, 3] }) (ty := 64) (d := some 86) (g := none) (by kernel_rfl) (by kernel_rfl) (by kernel_rfl) (Does.call (Φ := fun v' G' Γ' => ∃ (AR670_0 : Option Addr), ∃ (cR670_0 : Nat), ∃ (CR670_0 : Chunk), ∃ (AR670_1 : Option Addr), ∃ (cR670_1 : Nat), ∃ (CR670_1 : Chunk), ∃ (AR670_2 : Option Addr), ∃ (cR670_2 : Nat), ∃ (CR670_2 : Chunk), v' = .tuple #[.agg #[.int .i64 t65.1.f0, .int .i64 t65.1.f1, .int .i64 t65.1.f2, .slice AR670_0 t65.1.f3.length cR670_0, .slice AR670_1 t65.1.f4.length cR670_1, .slice AR670_2 t65.1.f5.length cR670_2], .int .i64 t65.2] ∧ Ow (kInt .i64) G AR670_0 cR670_0 t65.1.f3 CR670_0 ∧ Ow (kInt .i64) G AR670_1 cR670_1 t65.1.f4 CR670_1 ∧ Ow k39 G AR670_2 cR670_2 t65.1.f5 CR670_2 ∧ G = G' ∧ CR670_0 :: CR670_1 :: CR670_2 :: C60 :: [(b30, .cells #[.int .i64 t25.1.f0, .int .i64 t25.1.f1, .int .i64 t25.1.f2, .slice AR270_0 t25.1.f3.length cR270_0, .slice AR270_1 t25.1.f4.length cR270_1, .slice AR270_2 t25.1.f5.length cR270_2] 54 (0, 0))] :: CR270_0 :: CR270_1 :: CR270_2 :: [(b1, .cells #[.int .i64 a0.f0, .int .i64 a0.f1, .int .i64 a0.f2, .slice Aa0_f3 a0.f3.length ca0_f3, .slice Aa0_f4 a0.f4.length ca0_f4, .slice Aa0_f5 a0.f5.length ca0_f5] 54 (0, 0))] :: Γ = Γ') (f := 34) (args := [.slice AN57 v62.length cN57, .int .i64 a1]) (by kernel_rfl) (fun W hI => (Calls.lendN (Φ := fun v' N => ∃ (AR670_0 : Option Addr), ∃ (cR670_0 : Nat), ∃ (CR670_0 : Chunk), ∃ (AR670_1 : Option Addr), ∃ (cR670_1 : Nat), ∃ (CR670_1 : Chunk), ∃ (AR670_2 : Option Addr), ∃ (cR670_2 : Nat), ∃ (CR670_2 : Chunk), v' = .tuple #[.agg #[.int .i64 t65.1.f0, .int .i64 t65.1.f1, .int .i64 t65.1.f2, .slice AR670_0 t65.1.f3.length cR670_0, .slice AR670_1 t65.1.f4.length cR670_1, .slice AR670_2 t65.1.f5.length cR670_2], .int .i64 t65.2] ∧ Ow (kInt .i64) G AR670_0 cR670_0 t65.1.f3 CR670_0 ∧ Ow (kInt .i64) G AR670_1 cR670_1 t65.1.f4 CR670_1 ∧ Ow k39 G AR670_2 cR670_2 t65.1.f5 CR670_2 ∧ N = [CR670_0, CR670_1, CR670_2]) (H := []) (i := 0) rfl hI (fun _ e l69 nl69 hI => by subst e; exact (((talk_Read_calls (HT.mono l69) k v62 a1 AN57 cN57 (Hn64.rdN l69 nl69) t65 ht66 hI)).mono fun _ _ hr => by obtain ⟨_, _, _, rfl, hd, hI⟩ := hr; obtain ⟨AR670_0, cR670_0, CR670_0, AR670_1, cR670_1, CR670_1, AR670_2, cR670_2, CR670_2, rfl, HR670_0, HR670_1, HR670_2, rfl, rfl⟩ := hd; exact ⟨_, _, _, rfl, ⟨[CR670_0, CR670_1, CR670_2], ⟨AR670_0, cR670_0, CR670_0, AR670_1, cR670_1, CR670_1, AR670_2, cR670_2, CR670_2, rfl, (HR670_0.flat (kInt_flat _)), (HR670_1.flat (kInt_flat _)), (HR670_2.flat (kFlat_flat _ _ _ _)), rfl⟩, rfl, rfl⟩, hI⟩))).mono fun _ _ hr => by obtain ⟨_, _, _, rfl, ⟨_, hd, rfl, rfl⟩, hI⟩ := hr; obtain ⟨AR670_0, cR670_0, CR670_0, AR670_1, cR670_1, CR670_1, AR670_2, cR670_2, CR670_2, rfl, HR670_0, HR670_1, HR670_2, rfl⟩ := hd; exact ⟨_, _, _, rfl, ⟨AR670_0, cR670_0, CR670_0, AR670_1, cR670_1, CR670_1, AR670_2, cR670_2, CR670_2, rfl, HR670_0, HR670_1, HR670_2, rfl, rfl⟩, hI⟩)) ?_
        rintro _ _ _ ⟨AR670_0, cR670_0, CR670_0, AR670_1, cR670_1, CR670_1, AR670_2, cR670_2, CR670_2, rfl, HR670_0, HR670_1, HR670_2, rfl, rfl⟩
        refine WL.pure 3 6 [3, 4, 11, 12, 14, 16, 87, 88] (L' := [(3, .int .u8 a3), (4, .pointer (some ⟨b1, 0, none⟩)), (11, .pointer (some ⟨b30, 0, none⟩)), (12, .int .i64 t25.2), (14, .int .i64 t37.2), (16, .int .i64 t50.2), (87, .agg #[.int .i64 t65.1.f0, .int .i64 t65.1.f1, .int .i64 t65.1.f2, .slice AR670_0 t65.1.f3.length cR670_0, .slice AR670_1 t65.1.f4.length cR670_1, .slice AR670_2 t65.1.f5.length cR670_2]), (88, .int .i64 t65.2)]) (by kernel_rfl) (by decide) ?_
        refine WL.op (op := .alloc 54) (ty := 0) (d := some 18) (g := none) (by kernel_rfl) (by kernel_rfl) (by kernel_rfl) (Does.new (o := .cells #[.int .i64 0, .int .i64 0, .int .i64 0, .slice none 0 0, .slice none 0 0, .slice none 0 0] 54 (0, 0)) (v := fun r => .pointer (some ⟨r, 0, none⟩)) (fun r => by kernel_rfl)) ?_
        rintro _ _ _ ⟨b70, rfl, rfl, rfl⟩
        refine WL.op (op := .store 54 (.tmp 18) (.tmp 87)) (ty := 0) (d := none) (g := none) (by kernel_rfl) (by kernel_rfl) (by kernel_rfl) (Does.store_box (i := 0) (b := b70) (o := 0) (v := .agg #[.int .i64 t65.1.f0, .int .i64 t65.1.f1, .int .i64 t65.1.f2, .slice AR670_0 t65.1.f3.length cR670_0, .slice AR670_1 t65.1.f4.length cR670_1, .slice AR670_2 t65.1.f5.length cR670_2]) (by rfl) sz54 (by kernel_rfl) (by kernel_rfl) (by kernel_rfl) (Free.zero _) (Nat.le_of_ble_eq_true rfl) (cells' := #[.int .i64 t65.1.f0, .int .i64 t65.1.f1, .int .i64 t65.1.f2, .slice AR670_0 t65.1.f3.length cR670_0, .slice AR670_1 t65.1.f4.length cR670_1, .slice AR670_2 t65.1.f5.length cR670_2]) (by kernel_rfl)) ?_
        rintro _ _ _ ⟨rfl, rfl, rfl⟩
        refine WL.restQ 8 [3, 4, 11, 12, 14, 16, 19] (L' := [(3, .int .u8 a3), (4, .pointer (some ⟨b1, 0, none⟩)), (11, .pointer (some ⟨b30, 0, none⟩)), (12, .int .i64 t25.2), (14, .int .i64 t37.2), (16, .int .i64 t50.2), (19, .int .i64 t65.2)]) (by kernel_rfl) ?_
        refine WP.dropAt 4 ?_
        refine WP.dropAt 3 ?_
        refine WP.dropAt 2 ?_
        refine WP.dropAt 1 ?_
        refine WP.dropAt 0 ?_
        rw [Option.bind_eq_some_iff] at h
        obtain ⟨os71, h, hk72⟩ := h
        refine WP.cut (fun L' G' Γ' => ∃ s71 : Bool, s71 = os71 ∧ L' = [(8, .bool s71)] ∧ G = G' ∧ Γ = Γ') ?_ ?_
        · clear hk72
          refine WP.region ?_
          refine WL.pure 0 3 [3, 4, 11, 14, 16, 19, 91] (L' := [(3, .int .u8 a3), (4, .pointer (some ⟨b1, 0, none⟩)), (11, .pointer (some ⟨b30, 0, none⟩)), (14, .int .i64 t37.2), (16, .int .i64 t50.2), (19, .int .i64 t65.2), (91, .bool (t25.2 == 0))]) (by kernel_rfl) (by decide) ?_
          refine WL.split 91 (b := (t25.2 == 0)) (by kernel_rfl) (fun hc => ?_) (fun hc => ?_)
          · replace hc := eq_of_beq hc
            rw [if_pos hc] at h
            have hc73 := hc
            clear hc
            refine WL.tell (op := .load 54 (.tmp 11)) (ty := 54) (d := some 92) (g := some (2, true)) (by kernel_rfl) (by kernel_rfl) (by kernel_rfl) (Tells.load_box (i := 0) (b := b30) (o := 0) (agg := true) (by rfl) ag54 (by kernel_rfl) (fun h => by cases h) (Nat.le_of_ble_eq_true rfl) (v := .agg #[.int .i64 t25.1.f0, .int .i64 t25.1.f1, .int .i64 t25.1.f2, .slice AR270_0 t25.1.f3.length cR270_0, .slice AR270_1 t25.1.f4.length cR270_1, .slice AR270_2 t25.1.f5.length cR270_2]) (by kernel_rfl)) ?_
            refine WL.tell (op := .load 54 (.tmp 4)) (ty := 54) (d := some 93) (g := some (2, true)) (by kernel_rfl) (by kernel_rfl) (by kernel_rfl) (Tells.load_box (i := 4) (b := b1) (o := 0) (agg := true) (by rfl) ag54 (by kernel_rfl) (fun h => by cases h) (Nat.le_of_ble_eq_true rfl) (v := .agg #[.int .i64 a0.f0, .int .i64 a0.f1, .int .i64 a0.f2, .slice Aa0_f3 a0.f3.length ca0_f3, .slice Aa0_f4 a0.f4.length ca0_f4, .slice Aa0_f5 a0.f5.length ca0_f5]) (by kernel_rfl)) ?_
            rw [Option.bind_eq_some_iff] at h
            obtain ⟨t74, ht75, h⟩ := h
            refine WL.op (op := .call { callee := (.value (.func 32)), args := #[(.tmp 92), (.tmp 93)], argTypes := #[54, 54] }) (ty := 4) (d := some 94) (g := some (2, true)) (by kernel_rfl) (by kernel_rfl) (by kernel_rfl) (Does.call (Φ := fun v' G' Γ' => v' = .bool t74 ∧ G = G' ∧ [(b30, .cells #[.int .i64 t25.1.f0, .int .i64 t25.1.f1, .int .i64 t25.1.f2, .slice AR270_0 t25.1.f3.length cR270_0, .slice AR270_1 t25.1.f4.length cR270_1, .slice AR270_2 t25.1.f5.length cR270_2] 54 (0, 0))] :: CR270_0 :: CR270_1 :: CR270_2 :: [(b1, .cells #[.int .i64 a0.f0, .int .i64 a0.f1, .int .i64 a0.f2, .slice Aa0_f3 a0.f3.length ca0_f3, .slice Aa0_f4 a0.f4.length ca0_f4, .slice Aa0_f5 a0.f5.length ca0_f5] 54 (0, 0))] :: Γ = Γ') (f := 32) (args := [.agg #[.int .i64 t25.1.f0, .int .i64 t25.1.f1, .int .i64 t25.1.f2, .slice AR270_0 t25.1.f3.length cR270_0, .slice AR270_1 t25.1.f4.length cR270_1, .slice AR270_2 t25.1.f5.length cR270_2], .agg #[.int .i64 a0.f0, .int .i64 a0.f1, .int .i64 a0.f2, .slice Aa0_f3 a0.f3.length ca0_f3, .slice Aa0_f4 a0.f4.length ca0_f4, .slice Aa0_f5 a0.f5.length ca0_f5]]) (by kernel_rfl) (fun W hI => (Calls.lendN (Φ := fun v' N => v' = .bool t74 ∧ N = []) (H := []) (i := 1) rfl hI (fun _ e l78 nl78 hI => by subst e; exact Calls.lendN (Φ := fun v' N => v' = .bool t74 ∧ N = []) (H := []) (i := 2) rfl hI (fun _ e l79 nl79 hI => by subst e; exact Calls.lendN (Φ := fun v' N => v' = .bool t74 ∧ N = []) (H := []) (i := 3) rfl hI (fun _ e l80 nl80 hI => by subst e; exact (((grapevinelaw0_SameMessage_calls k t25.1 a0 AR270_0 cR270_0 (((HR270_0.rdN l78 nl78).mono l79).mono l80) AR270_1 cR270_1 (((HR270_1.mono l78).rdN l79 nl79).mono l80) AR270_2 cR270_2 (((HR270_2.mono l78).mono l79).rdN l80 nl80) Aa0_f3 ca0_f3 (((Ha0_f3.mono l78).mono l79).mono l80) Aa0_f4 ca0_f4 (((Ha0_f4.mono l78).mono l79).mono l80) Aa0_f5 ca0_f5 (((Ha0_f5.mono l78).mono l79).mono l80) t74 ht75 hI)).mono fun _ _ hr => by obtain ⟨_, _, _, rfl, hd, hI⟩ := hr; obtain ⟨rfl, rfl, rfl⟩ := hd; exact ⟨_, _, _, rfl, ⟨[], ⟨rfl, rfl⟩, rfl, rfl⟩, hI⟩))))).mono fun _ _ hr => by obtain ⟨_, _, _, rfl, ⟨_, hd, rfl, rfl⟩, hI⟩ := hr; obtain ⟨rfl, rfl⟩ := hd; exact ⟨_, _, _, rfl, ⟨rfl, rfl, rfl⟩, hI⟩)) ?_
            rintro _ _ _ ⟨rfl, rfl, rfl⟩
            refine WL.pure 6 8 [3, 14, 16, 19, 96] (L' := [(3, .int .u8 a3), (14, .int .i64 t37.2), (16, .int .i64 t50.2), (19, .int .i64 t65.2), (96, .bool t74)]) (by kernel_rfl) (by decide) ?_
            refine WL.split 96 (b := t74) (by kernel_rfl) (fun hc => ?_) (fun hc => ?_)
            · replace hc := hc
              rw [if_pos hc] at h
              have hc81 := hc
              clear hc
              refine WL.pure 8 12 [3, 16, 19, 100] (L' := [(3, .int .u8 a3), (16, .int .i64 t50.2), (19, .int .i64 t65.2), (100, .bool (t37.2 == 12))]) (by kernel_rfl) (by decide) ?_
              refine WL.split 100 (b := (t37.2 == 12)) (by kernel_rfl) (fun hc => ?_) (fun hc => ?_)
              · replace hc := eq_of_beq hc
                rw [if_pos hc] at h
                have hc82 := hc
                clear hc
                refine WL.pure 12 16 [3, 19, 104] (L' := [(3, .int .u8 a3), (19, .int .i64 t65.2), (104, .bool (t50.2 == 12))]) (by kernel_rfl) (by decide) ?_
                refine WL.split 104 (b := (t50.2 == 12)) (by kernel_rfl) (fun hc => ?_) (fun hc => ?_)
                · replace hc := eq_of_beq hc
                  rw [if_pos hc] at h
                  have hc83 := hc
                  clear hc
                  refine WL.pure 16 19 [19, 104, 107] (L' := [(19, .int .i64 t65.2), (104, .bool true), (107, .bool (a3 == 0))]) (by kernel_rfl) (by decide) ?_
                  refine WL.split 107 (b := (a3 == 0)) (by kernel_rfl) (fun hc => ?_) (fun hc => ?_)
                  · replace hc := eq_of_beq hc
                    rw [if_pos hc] at h
                    have hc84 := hc
                    clear hc
                    refine WL.pure 19 24 [112] (L' := [(112, .bool true)]) (by kernel_rfl) (by decide) ?_
                    rw [Option.bind_eq_some_iff] at h
                    obtain ⟨t85, ht86, h⟩ := h
                    refine WL.op (op := .call { callee := (.value (.func 25)), args := #[], argTypes := #[] }) (ty := 4) (d := some 113) (g := some (23, true)) (by kernel_rfl) (by kernel_rfl) (by kernel_rfl) (Does.call (f := 25) (args := []) (by kernel_rfl) (fun W hI => (grapevinelaw20_awake_calls HT k   t85 ht86 hI))) ?_
                    rintro _ _ _ ⟨rfl, rfl, rfl⟩
                    refine WL.rest 25 [8] (L' := [(8, .bool t85)]) (by kernel_rfl) ?_
                    refine QP.dropAt 4 ?_
                    refine QP.dropAt 3 ?_
                    refine QP.dropAt 2 ?_
                    refine QP.dropAt 1 ?_
                    refine QP.dropAt 0 ?_
                    refine QP.pick [8] ?_
                    exact QP.meet ⟨_, Option.some.inj h, rfl, rfl, rfl⟩
                  · replace hc := ne_of_beq_false hc
                    rw [if_neg hc] at h
                    have hc84 := hc
                    clear hc
                    refine WL.pure 19 24 [112] (L' := [(112, .bool (t65.2 == 12))]) (by kernel_rfl) (by decide) ?_
                    refine WL.split 112 (b := (t65.2 == 12)) (by kernel_rfl) (fun hc => ?_) (fun hc => ?_)
                    · replace hc := eq_of_beq hc
                      rw [if_pos hc] at h
                      have hc89 := hc
                      clear hc
                      rw [Option.bind_eq_some_iff] at h
                      obtain ⟨t90, ht91, h⟩ := h
                      refine WL.op (op := .call { callee := (.value (.func 25)), args := #[], argTypes := #[] }) (ty := 4) (d := some 113) (g := some (23, true)) (by kernel_rfl) (by kernel_rfl) (by kernel_rfl) (Does.call (f := 25) (args := []) (by kernel_rfl) (fun W hI => (grapevinelaw20_awake_calls HT k   t90 ht91 hI))) ?_
                      rintro _ _ _ ⟨rfl, rfl, rfl⟩
                      refine WL.rest 25 [8] (L' := [(8, .bool t90)]) (by kernel_rfl) ?_
                      refine QP.dropAt 4 ?_
                      refine QP.dropAt 3 ?_
                      refine QP.dropAt 2 ?_
                      refine QP.dropAt 1 ?_
                      refine QP.dropAt 0 ?_
                      refine QP.pick [8] ?_
                      exact QP.meet ⟨_, Option.some.inj h, rfl, rfl, rfl⟩
                    · replace hc := ne_of_beq_false hc
                      rw [if_neg hc] at h
                      have hc89 := hc
                      clear hc
                      refine WL.rest 24 [8] (L' := [(8, .bool false)]) (by kernel_rfl) ?_
                      refine QP.dropAt 4 ?_
                      refine QP.dropAt 3 ?_
                      refine QP.dropAt 2 ?_
                      refine QP.dropAt 1 ?_
                      refine QP.dropAt 0 ?_
                      refine QP.pick [8] ?_
                      exact QP.meet ⟨_, Option.some.inj h, rfl, rfl, rfl⟩
                · replace hc := ne_of_beq_false hc
                  rw [if_neg hc] at h
                  have hc83 := hc
                  clear hc
                  refine WL.rest 16 [8] (L' := [(8, .bool false)]) (by kernel_rfl) ?_
                  refine QP.dropAt 4 ?_
                  refine QP.dropAt 3 ?_
                  refine QP.dropAt 2 ?_
                  refine QP.dropAt 1 ?_
                  refine QP.dropAt 0 ?_
                  refine QP.pick [8] ?_
                  exact QP.meet ⟨_, Option.some.inj h, rfl, rfl, rfl⟩
              · replace hc := ne_of_beq_false hc
                rw [if_neg hc] at h
                have hc82 := hc
                clear hc
                refine WL.rest 12 [8] (L' := [(8, .bool false)]) (by kernel_rfl) ?_
                refine QP.dropAt 4 ?_
                refine QP.dropAt 3 ?_
                refine QP.dropAt 2 ?_
                refine QP.dropAt 1 ?_
                refine QP.dropAt 0 ?_
                refine QP.pick [8] ?_
                exact QP.meet ⟨_, Option.some.inj h, rfl, rfl, rfl⟩
            · replace hc := (Bool.eq_false_iff.1 hc)
              rw [if_neg hc] at h
              have hc81 := hc
              clear hc
              refine WL.rest 8 [8] (L' := [(8, .bool false)]) (by kernel_rfl) ?_
              refine QP.dropAt 4 ?_
              refine QP.dropAt 3 ?_
              refine QP.dropAt 2 ?_
              refine QP.dropAt 1 ?_
              refine QP.dropAt 0 ?_
              refine QP.pick [8] ?_
              exact QP.meet ⟨_, Option.some.inj h, rfl, rfl, rfl⟩
          · replace hc := ne_of_beq_false hc
            rw [if_neg hc] at h
            have hc73 := hc
            clear hc
            refine WL.rest 3 [8] (L' := [(8, .bool false)]) (by kernel_rfl) ?_
            refine QP.dropAt 4 ?_
            refine QP.dropAt 3 ?_
            refine QP.dropAt 2 ?_
            refine QP.dropAt 1 ?_
            refine QP.dropAt 0 ?_
            refine QP.pick [8] ?_
            exact QP.meet ⟨_, Option.some.inj h, rfl, rfl, rfl⟩
        · rintro _ _ _ ⟨s71, rfl, rfl, rfl, rfl⟩
          clear h
          replace h := hk72
          refine WP.ret ?_
          obtain rfl := Option.some.inj h
          exact QP.returned [8] [.bool s71] _ (by kernel_rfl) (by kernel_rfl) (by kernel_rfl) (fun W hI => ⟨_, _, _, rfl, ⟨rfl, rfl, rfl⟩, hI⟩)
/-- The plain law. -/
def TalkSpoilt_Pure : Prop := ∀ (a0 : T54) (a1 : Int) (a2 : Int) (a3 : Int), ((Lit.int .i64 a0.f0).wf = true ∧ (Lit.int .i64 a0.f1).wf = true ∧ (Lit.int .i64 a0.f2).wf = true ∧ (a0.f3.length ≤ maxLen ∧ ∀ z0 ∈ a0.f3, (Lit.int .i64 z0).wf = true) ∧ (a0.f4.length ≤ maxLen ∧ ∀ z0 ∈ a0.f4, (Lit.int .i64 z0).wf = true) ∧ (a0.f5.length ≤ maxLen ∧ ∀ z0 ∈ a0.f5, ((Lit.int .i64 z0.f0).wf = true ∧ (Lit.int .i64 z0.f1).wf = true ∧ (Lit.int .i64 z0.f2).wf = true ∧ (Lit.int .i64 z0.f3).wf = true ∧ z0.f4.size ≤ maxLen))) → (Lit.int .i64 a1).wf = true → (Lit.int .i64 a2).wf = true → (Lit.int .u8 a3).wf = true → ∃ k, grapevinelaw20_TalkSpoilt k a0 a1 a2 a3 = some true
end Go.Proofs.YtfocilpnbiciaaaDoor.Gf
