/- Walks of Go functions: what each tells, as a plain Lean function, and that the Go code comes to it. Written by gg.py of this repo. -/
import Derived.Test.YtjmhhmljldjmjaaDoorT
import Derived.Test.YtjmhhmljldjmjaaDoorF0
import Derived.Test.YtjmhhmljldjmjaaDoorF1
namespace Go.Proofs.YtjmhhmljldjmjaaDoor.Gf
open Go Go.Gg
set_option maxRecDepth 100000
set_option linter.unusedVariables false
set_option linter.unusedSimpArgs false

/-! ### grapevine/grapevinelaw4.RecordLays: function 3 -/
def grapevinelaw4_RecordLays (k : Nat) (a0 : T27) : Option Bool := (if (a0.f4.size : Int) > 300 then ((grapevinelaw4_awake k ).bind fun t3 => some t3) else ((record_Lay k a0).bind fun t7 => ((grapevineref4_Lay k a0).bind fun t11 => (((grapevinelaw0_SameBytes k t7.1 t11.1).bind fun t17 => (if t17 = true then ((grapevinelaw0_Num t7.2).bind fun t24 => some (t24 == t11.2)) else some false)).bind fun s15 => ((grapevinelaw0_OverBytes k t7.1).bind fun t28 => ((record_Lay k a0).bind fun t32 => ((if s15 = true then ((grapevinelaw0_SameBytes k t32.1 t11.1).bind fun t39 => (if t39 = true then ((grapevinelaw4_awake k ).bind fun t46 => some t46) else some false)) else some false).bind fun s36 => some s36)))))))
set_option maxHeartbeats 4000000 in
theorem grapevinelaw4_RecordLays_calls {B : World} {G : GMap} {Γ : List Chunk} {W : World} (HT : Tabs B G) (k : Nat) (a0 : T27) (r : Bool) (h : grapevinelaw4_RecordLays k a0 = some r) (hI : Inv B G (Γ) W) :
    Calls Tryd.prog 3 [.agg #[.int .i64 a0.f0, .int .i64 a0.f1, .int .i64 a0.f2, .int .i64 a0.f3, .string a0.f4]].toArray W (Ret B (fun v G' Γ' => v = .bool r ∧ G = G' ∧ Γ = Γ')) := by
  refine calls_WP (Γ := Γ) (G := G) (B := B) Tryd.func3 rfl (by kernel_rfl) ?_ hI
  clear hI
  unfold grapevinelaw4_RecordLays at h
  refine WP.seqR ?_
  refine WL.op (op := .box 27 (.tmp 0)) (ty := 0) (d := some 1) (g := none) (by kernel_rfl) (by kernel_rfl) (by kernel_rfl) (Does.new (o := .cells #[.int .i64 a0.f0, .int .i64 a0.f1, .int .i64 a0.f2, .int .i64 a0.f3, .string a0.f4] 27 (0, 0)) (v := fun r => .pointer (some ⟨r, 0, none⟩)) (fun r => by kernel_rfl)) ?_
  rintro _ _ _ ⟨b1, rfl, rfl, rfl⟩
  refine WL.restQ 1 [1] (L' := [(1, .pointer (some ⟨b1, 0, none⟩))]) (by kernel_rfl) ?_
  refine WP.seq ?_
  refine WP.seqR ?_
  refine WL.pure 0 1 [1, 8] (L' := [(1, .pointer (some ⟨b1, 0, none⟩)), (8, .pointer (some ⟨b1, 4, none⟩))]) (by kernel_rfl) (by decide) ?_
  refine WL.tell (op := .load 9 (.tmp 8)) (ty := 9) (d := some 9) (g := none) (by kernel_rfl) (by kernel_rfl) (by kernel_rfl) (Tells.load_box (i := 0) (b := b1) (o := 4) (agg := false) (by rfl) ag9 (by kernel_rfl) (fun _ => rfl) (Nat.le_of_ble_eq_true rfl) (v := .string a0.f4) (by kernel_rfl)) ?_
  refine WL.restQ 2 [1, 11] (L' := [(1, .pointer (some ⟨b1, 0, none⟩)), (11, .bool (decide ((a0.f4.size : Int) > 300)))]) (by kernel_rfl) ?_
  refine WP.cond (b := decide ((a0.f4.size : Int) > 300)) (by kernel_rfl) (fun hc => ?_) (fun hc => ?_)
  · replace hc := of_decide_eq_true hc
    rw [if_pos hc] at h
    have hc2 := hc
    clear hc
    refine WP.seqR ?_
    rw [Option.bind_eq_some_iff] at h
    obtain ⟨t3, ht4, h⟩ := h
    refine WL.op (op := .call { callee := (.value (.func 13)), args := #[], argTypes := #[] }) (ty := 4) (d := some 12) (g := none) (by kernel_rfl) (by kernel_rfl) (by kernel_rfl) (Does.call (f := 13) (args := []) (by kernel_rfl) (fun W hI => (grapevinelaw4_awake_calls HT k   t3 ht4 hI))) ?_
    rintro _ _ _ ⟨rfl, rfl, rfl⟩
    refine WL.restQ 1 [2] (L' := [(2, .bool t3)]) (by kernel_rfl) ?_
    refine WP.dropAt 0 ?_
    refine WP.ret ?_
    refine QP.thenR ?_
    obtain rfl := Option.some.inj h
    exact QP.returned [2] [.bool t3] _ (by kernel_rfl) (by kernel_rfl) (by kernel_rfl) (fun W hI => ⟨_, _, _, rfl, ⟨rfl, rfl, rfl⟩, hI⟩)
  · replace hc := of_decide_eq_false hc
    rw [if_neg hc] at h
    have hc2 := hc
    clear hc
    refine WP.skip ?_
    refine QP.next ?_
    refine WP.pick [1] ?_
    refine WP.seqR ?_
    refine WL.tell (op := .load 27 (.tmp 1)) (ty := 27) (d := some 14) (g := none) (by kernel_rfl) (by kernel_rfl) (by kernel_rfl) (Tells.load_box (i := 0) (b := b1) (o := 0) (agg := true) (by rfl) ag27 (by kernel_rfl) (fun h => by cases h) (Nat.le_of_ble_eq_true rfl) (v := .agg #[.int .i64 a0.f0, .int .i64 a0.f1, .int .i64 a0.f2, .int .i64 a0.f3, .string a0.f4]) (by kernel_rfl)) ?_
    rw [Option.bind_eq_some_iff] at h
    obtain ⟨t7, ht8, h⟩ := h
    refine WL.op (op := .call { callee := (.value (.func 14)), args := #[(.tmp 14)], argTypes := #[27] }) (ty := 31) (d := some 15) (g := none) (by kernel_rfl) (by kernel_rfl) (by kernel_rfl) (Does.call (f := 14) (args := [.agg #[.int .i64 a0.f0, .int .i64 a0.f1, .int .i64 a0.f2, .int .i64 a0.f3, .string a0.f4]]) (by kernel_rfl) (fun W hI => (record_Lay_calls HT k a0  t7 ht8 hI))) ?_
    rintro _ _ _ ⟨AR90, cR90, CR90, rfl, HR90, rfl, rfl⟩
    refine WL.restQ 2 [1, 3, 4] (L' := [(1, .pointer (some ⟨b1, 0, none⟩)), (3, .slice AR90 t7.1.length cR90), (4, .int .i64 t7.2)]) (by kernel_rfl) ?_
    refine WP.seqR ?_
    refine WL.tell (op := .load 27 (.tmp 1)) (ty := 27) (d := some 19) (g := none) (by kernel_rfl) (by kernel_rfl) (by kernel_rfl) (Tells.load_box (i := 1) (b := b1) (o := 0) (agg := true) (by rfl) ag27 (by kernel_rfl) (fun h => by cases h) (Nat.le_of_ble_eq_true rfl) (v := .agg #[.int .i64 a0.f0, .int .i64 a0.f1, .int .i64 a0.f2, .int .i64 a0.f3, .string a0.f4]) (by kernel_rfl)) ?_
    rw [Option.bind_eq_some_iff] at h
    obtain ⟨t11, ht12, h⟩ := h
    refine WL.op (op := .call { callee := (.value (.func 15)), args := #[(.tmp 19)], argTypes := #[27] }) (ty := 33) (d := some 20) (g := none) (by kernel_rfl) (by kernel_rfl) (by kernel_rfl) (Does.call (f := 15) (args := [.agg #[.int .i64 a0.f0, .int .i64 a0.f1, .int .i64 a0.f2, .int .i64 a0.f3, .string a0.f4]]) (by kernel_rfl) (fun W hI => (grapevineref4_Lay_calls HT k a0  t11 ht12 hI))) ?_
    rintro _ _ _ ⟨AR130, cR130, CR130, rfl, HR130, rfl, rfl⟩
    refine WL.restQ 2 [1, 3, 4, 5, 6] (L' := [(1, .pointer (some ⟨b1, 0, none⟩)), (3, .slice AR90 t7.1.length cR90), (4, .int .i64 t7.2), (5, .slice AR130 t11.1.length cR130), (6, .int .i64 t11.2)]) (by kernel_rfl) ?_
    rw [Option.bind_eq_some_iff] at h
    obtain ⟨os15, h, hk16⟩ := h
    refine WP.cut (fun L' G' Γ' => ∃ s15 : Bool, s15 = os15 ∧ L' = [(1, .pointer (some ⟨b1, 0, none⟩)), (3, .slice AR90 t7.1.length cR90), (5, .slice AR130 t11.1.length cR130), (7, .bool s15)] ∧ G = G' ∧ CR130 :: CR90 :: [(b1, .cells #[.int .i64 a0.f0, .int .i64 a0.f1, .int .i64 a0.f2, .int .i64 a0.f3, .string a0.f4] 27 (0, 0))] :: Γ = Γ') ?_ ?_
    · clear hk16
      refine WP.region ?_
      refine WL.pure 0 2 [1, 3, 4, 5, 6, 23, 24] (L' := [(1, .pointer (some ⟨b1, 0, none⟩)), (3, .slice AR90 t7.1.length cR90), (4, .int .i64 t7.2), (5, .slice AR130 t11.1.length cR130), (6, .int .i64 t11.2), (23, .slice AR90 t7.1.length cR90), (24, .slice AR130 t11.1.length cR130)]) (by kernel_rfl) (by decide) ?_
      rw [Option.bind_eq_some_iff] at h
      obtain ⟨t17, ht18, h⟩ := h
      refine WL.op (op := .call { callee := (.value (.func 16)), args := #[(.tmp 23), (.tmp 24)], argTypes := #[29, 29] }) (ty := 4) (d := some 25) (g := none) (by kernel_rfl) (by kernel_rfl) (by kernel_rfl) (Does.call (Φ := fun v' G' Γ' => v' = .bool t17 ∧ G = G' ∧ CR130 :: CR90 :: [(b1, .cells #[.int .i64 a0.f0, .int .i64 a0.f1, .int .i64 a0.f2, .int .i64 a0.f3, .string a0.f4] 27 (0, 0))] :: Γ = Γ') (f := 16) (args := [.slice AR90 t7.1.length cR90, .slice AR130 t11.1.length cR130]) (by kernel_rfl) (fun W hI => (Calls.lendH (Φ := fun v' N => v' = .bool t17 ∧ N = []) (H := []) (i := 1) rfl (Ow.nodup HR90) hI (fun _ e l21 hI => by subst e; exact Calls.lendH (Φ := fun v' N => v' = .bool t17 ∧ N = []) (H := []) (i := 0) rfl (Ow.nodup (HR130.mono l21)) hI (fun _ e l22 hI => by subst e; exact (((grapevinelaw0_SameBytes_calls k t7.1 t11.1 AR90 cR90 ((HR90.rd l21).mono l22) AR130 cR130 ((HR130.mono l21).rd l22) t17 ht18 hI)).mono fun _ _ hr => by obtain ⟨_, _, _, rfl, hd, hI⟩ := hr; obtain ⟨rfl, rfl, rfl⟩ := hd; exact ⟨_, _, _, rfl, ⟨[], ⟨rfl, rfl⟩, rfl, rfl⟩, hI⟩)))).mono fun _ _ hr => by obtain ⟨_, _, _, rfl, ⟨_, hd, rfl, rfl⟩, hI⟩ := hr; obtain ⟨rfl, rfl⟩ := hd; exact ⟨_, _, _, rfl, ⟨rfl, rfl, rfl⟩, hI⟩)) ?_
      rintro _ _ _ ⟨rfl, rfl, rfl⟩
      refine WL.pure 3 4 [1, 3, 4, 5, 6, 26] (L' := [(1, .pointer (some ⟨b1, 0, none⟩)), (3, .slice AR90 t7.1.length cR90), (4, .int .i64 t7.2), (5, .slice AR130 t11.1.length cR130), (6, .int .i64 t11.2), (26, .bool t17)]) (by kernel_rfl) (by decide) ?_
      refine WL.split 26 (b := t17) (by kernel_rfl) (fun hc => ?_) (fun hc => ?_)
      · replace hc := hc
        rw [if_pos hc] at h
        have hc23 := hc
        clear hc
        refine WL.pure 4 5 [1, 3, 5, 6, 26, 27] (L' := [(1, .pointer (some ⟨b1, 0, none⟩)), (3, .slice AR90 t7.1.length cR90), (5, .slice AR130 t11.1.length cR130), (6, .int .i64 t11.2), (26, .bool true), (27, .int .i64 t7.2)]) (by kernel_rfl) (by decide) ?_
        rw [Option.bind_eq_some_iff] at h
        obtain ⟨t24, ht25, h⟩ := h
        refine WL.op (op := .call { callee := (.value (.func 17)), args := #[(.tmp 27)], argTypes := #[30] }) (ty := 3) (d := some 28) (g := some (3, true)) (by kernel_rfl) (by kernel_rfl) (by kernel_rfl) (Does.call (f := 17) (args := [.int .i64 t7.2]) (by kernel_rfl) (fun W hI => (grapevinelaw0_Num_calls t7.2  t24 ht25 hI))) ?_
        rintro _ _ _ ⟨rfl, rfl, rfl⟩
        refine WL.rest 6 [1, 3, 5, 7] (L' := [(1, .pointer (some ⟨b1, 0, none⟩)), (3, .slice AR90 t7.1.length cR90), (5, .slice AR130 t11.1.length cR130), (7, .bool (t24 == t11.2))]) (by kernel_rfl) ?_
        refine QP.pick [1, 3, 5, 7] ?_
        exact QP.meet ⟨_, Option.some.inj h, rfl, rfl, rfl⟩
      · replace hc := (Bool.eq_false_iff.1 hc)
        rw [if_neg hc] at h
        have hc23 := hc
        clear hc
        refine WL.rest 4 [1, 3, 5, 7] (L' := [(1, .pointer (some ⟨b1, 0, none⟩)), (3, .slice AR90 t7.1.length cR90), (5, .slice AR130 t11.1.length cR130), (7, .bool false)]) (by kernel_rfl) ?_
        refine QP.pick [1, 3, 5, 7] ?_
        exact QP.meet ⟨_, Option.some.inj h, rfl, rfl, rfl⟩
    · rintro _ _ _ ⟨s15, rfl, rfl, rfl, rfl⟩
      clear h
      replace h := hk16
      refine WP.seqR ?_
      refine WL.pure 0 1 [1, 5, 7, 32] (L' := [(1, .pointer (some ⟨b1, 0, none⟩)), (5, .slice AR130 t11.1.length cR130), (7, .bool s15), (32, .slice AR90 t7.1.length cR90)]) (by kernel_rfl) (by decide) ?_
      refine WL.front (i := 1) rfl ?_
      rw [Option.bind_eq_some_iff] at h
      obtain ⟨t28, ht29, h⟩ := h
      refine WL.op (op := .call { callee := (.value (.func 18)), args := #[(.tmp 32)], argTypes := #[29] }) (ty := 0) (d := some 33) (g := none) (by kernel_rfl) (by kernel_rfl) (by kernel_rfl) (Does.call (f := 18) (args := [.slice AR90 t7.1.length cR90]) (by kernel_rfl) (fun W hI => (grapevinelaw0_OverBytes_calls k t7.1 AR90 cR90 CR90 HR90 t28 ht29 hI))) ?_
      rintro _ _ _ ⟨rfl, rfl, rfl⟩
      refine WL.restQ 2 [1, 5, 7] (L' := [(1, .pointer (some ⟨b1, 0, none⟩)), (5, .slice AR130 t11.1.length cR130), (7, .bool s15)]) (by kernel_rfl) ?_
      refine WP.seqR ?_
      refine WL.tell (op := .load 27 (.tmp 1)) (ty := 27) (d := some 35) (g := none) (by kernel_rfl) (by kernel_rfl) (by kernel_rfl) (Tells.load_box (i := 1) (b := b1) (o := 0) (agg := true) (by rfl) ag27 (by kernel_rfl) (fun h => by cases h) (Nat.le_of_ble_eq_true rfl) (v := .agg #[.int .i64 a0.f0, .int .i64 a0.f1, .int .i64 a0.f2, .int .i64 a0.f3, .string a0.f4]) (by kernel_rfl)) ?_
      rw [Option.bind_eq_some_iff] at h
      obtain ⟨t32, ht33, h⟩ := h
      refine WL.op (op := .call { callee := (.value (.func 14)), args := #[(.tmp 35)], argTypes := #[27] }) (ty := 31) (d := some 36) (g := none) (by kernel_rfl) (by kernel_rfl) (by kernel_rfl) (Does.call (f := 14) (args := [.agg #[.int .i64 a0.f0, .int .i64 a0.f1, .int .i64 a0.f2, .int .i64 a0.f3, .string a0.f4]]) (by kernel_rfl) (fun W hI => (record_Lay_calls HT k a0  t32 ht33 hI))) ?_
      rintro _ _ _ ⟨AR340, cR340, CR340, rfl, HR340, rfl, rfl⟩
      refine WL.restQ 2 [3, 5, 7] (L' := [(3, .slice AR340 t32.1.length cR340), (5, .slice AR130 t11.1.length cR130), (7, .bool s15)]) (by kernel_rfl) ?_
      refine WP.dropAt 2 ?_
      rw [Option.bind_eq_some_iff] at h
      obtain ⟨os36, h, hk37⟩ := h
      refine WP.cut (fun L' G' Γ' => ∃ s36 : Bool, s36 = os36 ∧ L' = [(2, .bool s36)] ∧ G = G' ∧ CR340 :: CR130 :: Γ = Γ') ?_ ?_
      · clear hk37
        refine WP.region ?_
        refine WL.pure 0 2 [3, 5, 40] (L' := [(3, .slice AR340 t32.1.length cR340), (5, .slice AR130 t11.1.length cR130), (40, .bool s15)]) (by kernel_rfl) (by decide) ?_
        refine WL.split 40 (b := s15) (by kernel_rfl) (fun hc => ?_) (fun hc => ?_)
        · replace hc := hc
          rw [if_pos hc] at h
          have hc38 := hc
          clear hc
          refine WL.pure 2 4 [40, 41, 42] (L' := [(40, .bool true), (41, .slice AR340 t32.1.length cR340), (42, .slice AR130 t11.1.length cR130)]) (by kernel_rfl) (by decide) ?_
          rw [Option.bind_eq_some_iff] at h
          obtain ⟨t39, ht40, h⟩ := h
          refine WL.op (op := .call { callee := (.value (.func 16)), args := #[(.tmp 41), (.tmp 42)], argTypes := #[29, 29] }) (ty := 4) (d := some 43) (g := some (1, true)) (by kernel_rfl) (by kernel_rfl) (by kernel_rfl) (Does.call (Φ := fun v' G' Γ' => v' = .bool t39 ∧ G = G' ∧ CR340 :: CR130 :: Γ = Γ') (f := 16) (args := [.slice AR340 t32.1.length cR340, .slice AR130 t11.1.length cR130]) (by kernel_rfl) (fun W hI => (Calls.lendH (Φ := fun v' N => v' = .bool t39 ∧ N = []) (H := []) (i := 0) rfl (Ow.nodup HR340) hI (fun _ e l43 hI => by subst e; exact Calls.lendH (Φ := fun v' N => v' = .bool t39 ∧ N = []) (H := []) (i := 1) rfl (Ow.nodup (HR130.mono l43)) hI (fun _ e l44 hI => by subst e; exact (((grapevinelaw0_SameBytes_calls k t32.1 t11.1 AR340 cR340 ((HR340.rd l43).mono l44) AR130 cR130 ((HR130.mono l43).rd l44) t39 ht40 hI)).mono fun _ _ hr => by obtain ⟨_, _, _, rfl, hd, hI⟩ := hr; obtain ⟨rfl, rfl, rfl⟩ := hd; exact ⟨_, _, _, rfl, ⟨[], ⟨rfl, rfl⟩, rfl, rfl⟩, hI⟩)))).mono fun _ _ hr => by obtain ⟨_, _, _, rfl, ⟨_, hd, rfl, rfl⟩, hI⟩ := hr; obtain ⟨rfl, rfl⟩ := hd; exact ⟨_, _, _, rfl, ⟨rfl, rfl, rfl⟩, hI⟩)) ?_
          rintro _ _ _ ⟨rfl, rfl, rfl⟩
          refine WL.pure 5 7 [45] (L' := [(45, .bool t39)]) (by kernel_rfl) (by decide) ?_
          refine WL.split 45 (b := t39) (by kernel_rfl) (fun hc => ?_) (fun hc => ?_)
          · replace hc := hc
            rw [if_pos hc] at h
            have hc45 := hc
            clear hc
            rw [Option.bind_eq_some_iff] at h
            obtain ⟨t46, ht47, h⟩ := h
            refine WL.op (op := .call { callee := (.value (.func 13)), args := #[], argTypes := #[] }) (ty := 4) (d := some 46) (g := some (6, true)) (by kernel_rfl) (by kernel_rfl) (by kernel_rfl) (Does.call (f := 13) (args := []) (by kernel_rfl) (fun W hI => (grapevinelaw4_awake_calls HT k   t46 ht47 hI))) ?_
            rintro _ _ _ ⟨rfl, rfl, rfl⟩
            refine WL.rest 8 [2] (L' := [(2, .bool t46)]) (by kernel_rfl) ?_
            refine QP.pick [2] ?_
            exact QP.meet ⟨_, Option.some.inj h, rfl, rfl, rfl⟩
          · replace hc := (Bool.eq_false_iff.1 hc)
            rw [if_neg hc] at h
            have hc45 := hc
            clear hc
            refine WL.rest 7 [2] (L' := [(2, .bool false)]) (by kernel_rfl) ?_
            refine QP.pick [2] ?_
            exact QP.meet ⟨_, Option.some.inj h, rfl, rfl, rfl⟩
        · replace hc := (Bool.eq_false_iff.1 hc)
          rw [if_neg hc] at h
          have hc38 := hc
          clear hc
          refine WL.rest 2 [2] (L' := [(2, .bool false)]) (by kernel_rfl) ?_
          refine QP.pick [2] ?_
          exact QP.meet ⟨_, Option.some.inj h, rfl, rfl, rfl⟩
      · rintro _ _ _ ⟨s36, rfl, rfl, rfl, rfl⟩
        clear h
        replace h := hk37
        refine WP.ret ?_
        obtain rfl := Option.some.inj h
        refine QP.dropAt 1 ?_
        refine QP.dropAt 0 ?_
        exact QP.returned [2] [.bool s36] _ (by kernel_rfl) (by kernel_rfl) (by kernel_rfl) (fun W hI => ⟨_, _, _, rfl, ⟨rfl, rfl, rfl⟩, hI⟩)
/-- The plain law. -/
def RecordLays_Pure : Prop := ∀ (a0 : T27), ((Lit.int .i64 a0.f0).wf = true ∧ (Lit.int .i64 a0.f1).wf = true ∧ (Lit.int .i64 a0.f2).wf = true ∧ (Lit.int .i64 a0.f3).wf = true ∧ a0.f4.size ≤ maxLen) → ∃ k, grapevinelaw4_RecordLays k a0 = some true
end Go.Proofs.YtjmhhmljldjmjaaDoor.Gf
