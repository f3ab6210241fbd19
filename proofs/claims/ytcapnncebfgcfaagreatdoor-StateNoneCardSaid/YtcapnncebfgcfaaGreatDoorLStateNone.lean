/- Walks of Go functions: what each tells, as a plain Lean function, and that the Go code comes to it. Written by gg.py of this repo. -/
import Derived.Test.YtcapnncebfgcfaaGreatDoorT
import Derived.Test.YtcapnncebfgcfaaGreatDoorF0
import Derived.Test.YtcapnncebfgcfaaGreatDoorF1
namespace Go.Proofs.YtcapnncebfgcfaaGreatDoor.Gf
open Go Go.Gg
set_option maxRecDepth 100000
set_option linter.unusedVariables false
set_option linter.unusedSimpArgs false

/-! ### grapevine/grapevinelaw19.StateNone: function 3 -/
noncomputable def grapevinelaw19_StateNone (k : Nat) (a0 : Int) : Option Bool := ((state_State_Find (⟨0, 0, ([] : List ByteArray), ([] : List T32), 0, 0, 0, 0, 0, (⟨#[]⟩ : ByteArray)⟩ : T40)).bind fun t1 => (((grapevinelaw19_rec 0 1).bind fun t8 => ((state_State_Accept t8).bind fun t12 => (if t12 = 1 then ((state_State_Retire a0 a0).bind fun t17 => (if t17 = 1 then ((state_State_V ).bind fun t22 => (if (t22.length : Int) = 0 then ((state_State_W ).bind fun t27 => (if (t27.length : Int) = 0 then ((state_State_Records k ).bind fun t32 => (if (t32.length : Int) = 0 then ((state_State_Lacks ([] : List Int) ([] : List Int)).bind fun t37 => (if (t37.length : Int) = 0 then ((grapevinelaw0_SameAnswer k t1 (⟨1, ([] : List T38), ([] : List Int), ([] : List Int)⟩ : T27)).bind fun t42 => (if t42 = true then ((state_State_Copy ).bind fun t50 => ((state_Join ).bind fun t54 => ((grapevinelaw19_awake k ).bind fun t58 => some t58))) else some false)) else some false)) else some false)) else some false)) else some false)) else some false)) else some false))).bind fun s6 => some s6))
set_option maxHeartbeats 4000000 in
theorem grapevinelaw19_StateNone_calls {B : World} {G : GMap} {Γ : List Chunk} {W : World} (HT : Tabs B G) (k : Nat) (a0 : Int) (r : Bool) (h : grapevinelaw19_StateNone k a0 = some r) (hI : Inv B G (Γ) W) :
    Calls Tryz.prog 3 [.int .i64 a0].toArray W (Ret B (fun v G' Γ' => v = .bool r ∧ G = G' ∧ Γ = Γ')) := by
  refine calls_WP (Γ := Γ) (G := G) (B := B) Tryz.func3 rfl (by kernel_rfl) ?_ hI
  clear hI
  unfold grapevinelaw19_StateNone at h
  refine WP.seqP [0] (L' := [(0, .int .i64 a0)]) (by kernel_rfl) ?_
  refine WP.seqP [0, 3] (L' := [(0, .int .i64 a0), (3, .pointer none)]) (by kernel_rfl) ?_
  refine WP.seqR ?_
  refine WL.pure 0 2 [0, 3, 5, 6] (L' := [(0, .int .i64 a0), (3, .pointer none), (5, .pointer none), (6, .agg #[.int .i64 0, .int .i64 0, .slice none 0 0, .slice none 0 0, .int .i64 0, .int .i64 0, .int .i64 0, .int .i64 0, .int .i64 0, .string (⟨#[]⟩ : ByteArray)])]) (by kernel_rfl) (by decide) ?_
  rw [Option.bind_eq_some_iff] at h
  obtain ⟨t1, ht2, h⟩ := h
  refine WL.op (op := .call { callee := (.value (.func 4)), args := #[(.tmp 5), (.tmp 6)], argTypes := #[22, 40] }) (ty := 27) (d := some 7) (g := none) (by kernel_rfl) (by kernel_rfl) (by kernel_rfl) (Does.call (f := 4) (args := [.pointer none, .agg #[.int .i64 0, .int .i64 0, .slice none 0 0, .slice none 0 0, .int .i64 0, .int .i64 0, .int .i64 0, .int .i64 0, .int .i64 0, .string (⟨#[]⟩ : ByteArray)]]) (by kernel_rfl) (fun W hI => (state_State_Find_calls (⟨0, 0, ([] : List ByteArray), ([] : List T32), 0, 0, 0, 0, 0, (⟨#[]⟩ : ByteArray)⟩ : T40) none 0 (Rd.nil _ _ _ _) none 0 (Rd.nil _ _ _ _) t1 ht2 hI))) ?_
  rintro _ _ _ ⟨AR3_0, cR3_0, CR3_0, AR3_1, cR3_1, CR3_1, AR3_2, cR3_2, CR3_2, rfl, HR3_0, HR3_1, HR3_2, rfl, rfl⟩
  refine WL.op (op := .alloc 27) (ty := 0) (d := some 4) (g := none) (by kernel_rfl) (by kernel_rfl) (by kernel_rfl) (Does.new (o := .cells #[.int .i64 0, .slice none 0 0, .slice none 0 0, .slice none 0 0] 27 (0, 0)) (v := fun r => .pointer (some ⟨r, 0, none⟩)) (fun r => by kernel_rfl)) ?_
  rintro _ _ _ ⟨b5, rfl, rfl, rfl⟩
  refine WL.op (op := .store 27 (.tmp 4) (.tmp 7)) (ty := 0) (d := none) (g := none) (by kernel_rfl) (by kernel_rfl) (by kernel_rfl) (Does.store_box (i := 0) (b := b5) (o := 0) (v := .agg #[.int .i64 t1.f0, .slice AR3_0 t1.f1.length cR3_0, .slice AR3_1 t1.f2.length cR3_1, .slice AR3_2 t1.f3.length cR3_2]) (by rfl) sz27 (by kernel_rfl) (by kernel_rfl) (by kernel_rfl) (Free.zero _) (Nat.le_of_ble_eq_true rfl) (cells' := #[.int .i64 t1.f0, .slice AR3_0 t1.f1.length cR3_0, .slice AR3_1 t1.f2.length cR3_1, .slice AR3_2 t1.f3.length cR3_2]) (by kernel_rfl)) ?_
  rintro _ _ _ ⟨rfl, rfl, rfl⟩
  refine WL.restQ 5 [0, 3, 4] (L' := [(0, .int .i64 a0), (3, .pointer none), (4, .pointer (some ⟨b5, 0, none⟩))]) (by kernel_rfl) ?_
  rw [Option.bind_eq_some_iff] at h
  obtain ⟨os6, h, hk7⟩ := h
  refine WP.cut (fun L' G' Γ' => ∃ s6 : Bool, s6 = os6 ∧ L' = [(2, .bool s6)] ∧ G = G' ∧ Γ = Γ') ?_ ?_
  · clear hk7
    refine WP.region ?_
    refine WL.pure 0 1 [0, 3, 4, 8] (L' := [(0, .int .i64 a0), (3, .pointer none), (4, .pointer (some ⟨b5, 0, none⟩)), (8, .pointer none)]) (by kernel_rfl) (by decide) ?_
    rw [Option.bind_eq_some_iff] at h
    obtain ⟨t8, ht9, h⟩ := h
    refine WL.op (op := .call { callee := (.value (.func 6)), args := #[(.const (.int .i64 0)), (.const (.int .i64 1))], argTypes := #[3, 3] }) (ty := 38) (d := some 9) (g := none) (by kernel_rfl) (by kernel_rfl) (by kernel_rfl) (Does.call (f := 6) (args := [.int .i64 0, .int .i64 1]) (by kernel_rfl) (fun W hI => (grapevinelaw19_rec_calls 0 1  t8 ht9 hI))) ?_
    rintro _ _ _ ⟨rfl, rfl, rfl⟩
    rw [Option.bind_eq_some_iff] at h
    obtain ⟨t12, ht13, h⟩ := h
    refine WL.op (op := .call { callee := (.value (.func 5)), args := #[(.tmp 8), (.tmp 9)], argTypes := #[22, 38] }) (ty := 23) (d := some 10) (g := none) (by kernel_rfl) (by kernel_rfl) (by kernel_rfl) (Does.call (f := 5) (args := [.pointer none, .agg #[.int .i64 t8.f0, .int .i64 t8.f1, .int .i64 t8.f2, .int .i64 t8.f3, .string t8.f4]]) (by kernel_rfl) (fun W hI => (state_State_Accept_calls t8  t12 ht13 hI))) ?_
    rintro _ _ _ ⟨rfl, rfl, rfl⟩
    refine WL.pure 3 5 [0, 3, 4, 12] (L' := [(0, .int .i64 a0), (3, .pointer none), (4, .pointer (some ⟨b5, 0, none⟩)), (12, .bool (t12 == 1))]) (by kernel_rfl) (by decide) ?_
    refine WL.split 12 (b := (t12 == 1)) (by kernel_rfl) (fun hc => ?_) (fun hc => ?_)
    · replace hc := eq_of_beq hc
      rw [if_pos hc] at h
      have hc16 := hc
      clear hc
      refine WL.pure 5 8 [3, 4, 12, 13, 14, 15] (L' := [(3, .pointer none), (4, .pointer (some ⟨b5, 0, none⟩)), (12, .bool true), (13, .pointer none), (14, .int .i64 a0), (15, .int .i64 a0)]) (by kernel_rfl) (by decide) ?_
      rw [Option.bind_eq_some_iff] at h
      obtain ⟨t17, ht18, h⟩ := h
      refine WL.op (op := .call { callee := (.value (.func 7)), args := #[(.tmp 13), (.tmp 14), (.tmp 15)], argTypes := #[22, 3, 3] }) (ty := 23) (d := some 16) (g := some (4, true)) (by kernel_rfl) (by kernel_rfl) (by kernel_rfl) (Does.call (f := 7) (args := [.pointer none, .int .i64 a0, .int .i64 a0]) (by kernel_rfl) (fun W hI => (state_State_Retire_calls a0 a0  t17 ht18 hI))) ?_
      rintro _ _ _ ⟨rfl, rfl, rfl⟩
      refine WL.pure 9 12 [3, 4, 19] (L' := [(3, .pointer none), (4, .pointer (some ⟨b5, 0, none⟩)), (19, .bool (t17 == 1))]) (by kernel_rfl) (by decide) ?_
      refine WL.split 19 (b := (t17 == 1)) (by kernel_rfl) (fun hc => ?_) (fun hc => ?_)
      · replace hc := eq_of_beq hc
        rw [if_pos hc] at h
        have hc21 := hc
        clear hc
        refine WL.pure 12 13 [3, 4, 19, 20] (L' := [(3, .pointer none), (4, .pointer (some ⟨b5, 0, none⟩)), (19, .bool true), (20, .pointer none)]) (by kernel_rfl) (by decide) ?_
        rw [Option.bind_eq_some_iff] at h
        obtain ⟨t22, ht23, h⟩ := h
        refine WL.op (op := .call { callee := (.value (.func 8)), args := #[(.tmp 20)], argTypes := #[22] }) (ty := 25) (d := some 21) (g := some (11, true)) (by kernel_rfl) (by kernel_rfl) (by kernel_rfl) (Does.call (f := 8) (args := [.pointer none]) (by kernel_rfl) (fun W hI => (state_State_V_calls   t22 ht23 hI))) ?_
        rintro _ _ _ ⟨AR24, cR24, rfl, HR24, rfl, rfl⟩
        refine WL.pure 14 18 [3, 4, 25] (L' := [(3, .pointer none), (4, .pointer (some ⟨b5, 0, none⟩)), (25, .bool ((t22.length : Int) == 0))]) (by kernel_rfl) (by decide) ?_
        refine WL.split 25 (b := ((t22.length : Int) == 0)) (by kernel_rfl) (fun hc => ?_) (fun hc => ?_)
        · replace hc := eq_of_beq hc
          rw [if_pos hc] at h
          have hc26 := hc
          clear hc
          refine WL.pure 18 19 [3, 4, 25, 26] (L' := [(3, .pointer none), (4, .pointer (some ⟨b5, 0, none⟩)), (25, .bool true), (26, .pointer none)]) (by kernel_rfl) (by decide) ?_
          rw [Option.bind_eq_some_iff] at h
          obtain ⟨t27, ht28, h⟩ := h
          refine WL.op (op := .call { callee := (.value (.func 9)), args := #[(.tmp 26)], argTypes := #[22] }) (ty := 25) (d := some 27) (g := some (17, true)) (by kernel_rfl) (by kernel_rfl) (by kernel_rfl) (Does.call (f := 9) (args := [.pointer none]) (by kernel_rfl) (fun W hI => (state_State_W_calls   t27 ht28 hI))) ?_
          rintro _ _ _ ⟨AR29, cR29, rfl, HR29, rfl, rfl⟩
          refine WL.pure 20 24 [3, 4, 31] (L' := [(3, .pointer none), (4, .pointer (some ⟨b5, 0, none⟩)), (31, .bool ((t27.length : Int) == 0))]) (by kernel_rfl) (by decide) ?_
          refine WL.split 31 (b := ((t27.length : Int) == 0)) (by kernel_rfl) (fun hc => ?_) (fun hc => ?_)
          · replace hc := eq_of_beq hc
            rw [if_pos hc] at h
            have hc31 := hc
            clear hc
            refine WL.pure 24 25 [3, 4, 31, 32] (L' := [(3, .pointer none), (4, .pointer (some ⟨b5, 0, none⟩)), (31, .bool true), (32, .pointer none)]) (by kernel_rfl) (by decide) ?_
            rw [Option.bind_eq_some_iff] at h
            obtain ⟨t32, ht33, h⟩ := h
            refine WL.op (op := .call { callee := (.value (.func 10)), args := #[(.tmp 32)], argTypes := #[22] }) (ty := 24) (d := some 33) (g := some (23, true)) (by kernel_rfl) (by kernel_rfl) (by kernel_rfl) (Does.call (f := 10) (args := [.pointer none]) (by kernel_rfl) (fun W hI => (state_State_Records_calls k   t32 ht33 hI))) ?_
            rintro _ _ _ ⟨AR34, cR34, rfl, HR34, rfl, rfl⟩
            refine WL.pure 26 30 [3, 4, 37] (L' := [(3, .pointer none), (4, .pointer (some ⟨b5, 0, none⟩)), (37, .bool ((t32.length : Int) == 0))]) (by kernel_rfl) (by decide) ?_
            refine WL.split 37 (b := ((t32.length : Int) == 0)) (by kernel_rfl) (fun hc => ?_) (fun hc => ?_)
            · replace hc := eq_of_beq hc
              rw [if_pos hc] at h
              have hc36 := hc
              clear hc
              refine WL.pure 30 31 [3, 4, 37, 38] (L' := [(3, .pointer none), (4, .pointer (some ⟨b5, 0, none⟩)), (37, .bool true), (38, .pointer none)]) (by kernel_rfl) (by decide) ?_
              rw [Option.bind_eq_some_iff] at h
              obtain ⟨t37, ht38, h⟩ := h
              refine WL.op (op := .call { callee := (.value (.func 11)), args := #[(.tmp 38), (.const (.slice none 0 0)), (.const (.slice none 0 0))], argTypes := #[22, 25, 25] }) (ty := 24) (d := some 39) (g := some (29, true)) (by kernel_rfl) (by kernel_rfl) (by kernel_rfl) (Does.call (f := 11) (args := [.pointer none, .slice none 0 0, .slice none 0 0]) (by kernel_rfl) (fun W hI => (state_State_Lacks_calls ([] : List Int) ([] : List Int) none 0 (Rd.nil _ _ _ _) none 0 (Rd.nil _ _ _ _) t37 ht38 hI))) ?_
              rintro _ _ _ ⟨AR39, cR39, rfl, HR39, rfl, rfl⟩
              refine WL.pure 32 36 [3, 4, 43] (L' := [(3, .pointer none), (4, .pointer (some ⟨b5, 0, none⟩)), (43, .bool ((t37.length : Int) == 0))]) (by kernel_rfl) (by decide) ?_
              refine WL.split 43 (b := ((t37.length : Int) == 0)) (by kernel_rfl) (fun hc => ?_) (fun hc => ?_)
              · replace hc := eq_of_beq hc
                rw [if_pos hc] at h
                have hc41 := hc
                clear hc
                refine WL.tell (op := .load 27 (.tmp 4)) (ty := 27) (d := some 44) (g := some (35, true)) (by kernel_rfl) (by kernel_rfl) (by kernel_rfl) (Tells.load_box (i := 0) (b := b5) (o := 0) (agg := true) (by rfl) ag27 (by kernel_rfl) (fun h => by cases h) (Nat.le_of_ble_eq_true rfl) (v := .agg #[.int .i64 t1.f0, .slice AR3_0 t1.f1.length cR3_0, .slice AR3_1 t1.f2.length cR3_1, .slice AR3_2 t1.f3.length cR3_2]) (by kernel_rfl)) ?_
                refine WL.pure 37 38 [3, 43, 44, 45] (L' := [(3, .pointer none), (43, .bool true), (44, .agg #[.int .i64 t1.f0, .slice AR3_0 t1.f1.length cR3_0, .slice AR3_1 t1.f2.length cR3_1, .slice AR3_2 t1.f3.length cR3_2]), (45, .agg #[.int .i64 1, .slice none 0 0, .slice none 0 0, .slice none 0 0])]) (by kernel_rfl) (by decide) ?_
                rw [Option.bind_eq_some_iff] at h
                obtain ⟨t42, ht43, h⟩ := h
                refine WL.op (op := .call { callee := (.value (.func 12)), args := #[(.tmp 44), (.tmp 45)], argTypes := #[27, 27] }) (ty := 4) (d := some 46) (g := some (35, true)) (by kernel_rfl) (by kernel_rfl) (by kernel_rfl) (Does.call (Φ := fun v' G' Γ' => v' = .bool t42 ∧ G = G' ∧ [(b5, .cells #[.int .i64 t1.f0, .slice AR3_0 t1.f1.length cR3_0, .slice AR3_1 t1.f2.length cR3_1, .slice AR3_2 t1.f3.length cR3_2] 27 (0, 0))] :: CR3_0 :: CR3_1 :: CR3_2 :: Γ = Γ') (f := 12) (args := [.agg #[.int .i64 t1.f0, .slice AR3_0 t1.f1.length cR3_0, .slice AR3_1 t1.f2.length cR3_1, .slice AR3_2 t1.f3.length cR3_2], .agg #[.int .i64 1, .slice none 0 0, .slice none 0 0, .slice none 0 0]]) (by kernel_rfl) (fun W hI => (Calls.lendN (Φ := fun v' N => v' = .bool t42 ∧ N = []) (H := []) (i := 1) rfl hI (fun _ e l46 nl46 hI => by subst e; exact Calls.lendN (Φ := fun v' N => v' = .bool t42 ∧ N = []) (H := []) (i := 2) rfl hI (fun _ e l47 nl47 hI => by subst e; exact Calls.lendN (Φ := fun v' N => v' = .bool t42 ∧ N = []) (H := []) (i := 3) rfl hI (fun _ e l48 nl48 hI => by subst e; exact (((grapevinelaw0_SameAnswer_calls k t1 (⟨1, ([] : List T38), ([] : List Int), ([] : List Int)⟩ : T27) AR3_0 cR3_0 (((HR3_0.rdN l46 nl46).mono l47).mono l48) AR3_1 cR3_1 (((HR3_1.mono l46).rdN l47 nl47).mono l48) AR3_2 cR3_2 (((HR3_2.mono l46).mono l47).rdN l48 nl48) none 0 (Rd.nil _ _ _ _) none 0 (Rd.nil _ _ _ _) none 0 (Rd.nil _ _ _ _) t42 ht43 hI)).mono fun _ _ hr => by obtain ⟨_, _, _, rfl, hd, hI⟩ := hr; obtain ⟨rfl, rfl, rfl⟩ := hd; exact ⟨_, _, _, rfl, ⟨[], ⟨rfl, rfl⟩, rfl, rfl⟩, hI⟩))))).mono fun _ _ hr => by obtain ⟨_, _, _, rfl, ⟨_, hd, rfl, rfl⟩, hI⟩ := hr; obtain ⟨rfl, rfl⟩ := hd; exact ⟨_, _, _, rfl, ⟨rfl, rfl, rfl⟩, hI⟩)) ?_
                rintro _ _ _ ⟨rfl, rfl, rfl⟩
                refine WL.pure 39 41 [3, 48] (L' := [(3, .pointer none), (48, .bool t42)]) (by kernel_rfl) (by decide) ?_
                refine WL.split 48 (b := t42) (by kernel_rfl) (fun hc => ?_) (fun hc => ?_)
                · replace hc := hc
                  rw [if_pos hc] at h
                  have hc49 := hc
                  clear hc
                  refine WL.pure 41 42 [48, 49] (L' := [(48, .bool true), (49, .pointer none)]) (by kernel_rfl) (by decide) ?_
                  rw [Option.bind_eq_some_iff] at h
                  obtain ⟨t50, ht51, h⟩ := h
                  refine WL.op (op := .call { callee := (.value (.func 13)), args := #[(.tmp 49)], argTypes := #[22] }) (ty := 22) (d := some 50) (g := some (40, true)) (by kernel_rfl) (by kernel_rfl) (by kernel_rfl) (Does.call (f := 13) (args := [.pointer none]) (by kernel_rfl) (fun W hI => (state_State_Copy_calls   t50 ht51 hI))) ?_
                  rintro _ _ _ ⟨rfl, rfl, rfl⟩
                  refine WL.pure 43 46 [53] (L' := [(53, .bool true)]) (by kernel_rfl) (by decide) ?_
                  rw [Option.bind_eq_some_iff] at h
                  obtain ⟨t54, ht55, h⟩ := h
                  refine WL.op (op := .call { callee := (.value (.func 14)), args := #[(.const (.slice none 0 0))], argTypes := #[68] }) (ty := 22) (d := some 54) (g := some (45, true)) (by kernel_rfl) (by kernel_rfl) (by kernel_rfl) (Does.call (f := 14) (args := [.slice none 0 0]) (by kernel_rfl) (fun W hI => (state_Join_calls   t54 ht55 hI))) ?_
                  rintro _ _ _ ⟨rfl, rfl, rfl⟩
                  refine WL.pure 47 50 [57] (L' := [(57, .bool true)]) (by kernel_rfl) (by decide) ?_
                  rw [Option.bind_eq_some_iff] at h
                  obtain ⟨t58, ht59, h⟩ := h
                  refine WL.op (op := .call { callee := (.value (.func 15)), args := #[], argTypes := #[] }) (ty := 4) (d := some 58) (g := some (49, true)) (by kernel_rfl) (by kernel_rfl) (by kernel_rfl) (Does.call (f := 15) (args := []) (by kernel_rfl) (fun W hI => (grapevinelaw19_awake_calls HT k   t58 ht59 hI))) ?_
                  rintro _ _ _ ⟨rfl, rfl, rfl⟩
                  refine WL.rest 51 [2] (L' := [(2, .bool t58)]) (by kernel_rfl) ?_
                  refine QP.dropAt 3 ?_
                  refine QP.dropAt 2 ?_
                  refine QP.dropAt 1 ?_
                  refine QP.dropAt 0 ?_
                  refine QP.pick [2] ?_
                  exact QP.meet ⟨_, Option.some.inj h, rfl, rfl, rfl⟩
                · replace hc := (Bool.eq_false_iff.1 hc)
                  rw [if_neg hc] at h
                  have hc49 := hc
                  clear hc
                  refine WL.rest 41 [2] (L' := [(2, .bool false)]) (by kernel_rfl) ?_
                  refine QP.dropAt 3 ?_
                  refine QP.dropAt 2 ?_
                  refine QP.dropAt 1 ?_
                  refine QP.dropAt 0 ?_
                  refine QP.pick [2] ?_
                  exact QP.meet ⟨_, Option.some.inj h, rfl, rfl, rfl⟩
              · replace hc := ne_of_beq_false hc
                rw [if_neg hc] at h
                have hc41 := hc
                clear hc
                refine WL.rest 36 [2] (L' := [(2, .bool false)]) (by kernel_rfl) ?_
                refine QP.dropAt 3 ?_
                refine QP.dropAt 2 ?_
                refine QP.dropAt 1 ?_
                refine QP.dropAt 0 ?_
                refine QP.pick [2] ?_
                exact QP.meet ⟨_, Option.some.inj h, rfl, rfl, rfl⟩
            · replace hc := ne_of_beq_false hc
              rw [if_neg hc] at h
              have hc36 := hc
              clear hc
              refine WL.rest 30 [2] (L' := [(2, .bool false)]) (by kernel_rfl) ?_
              refine QP.dropAt 3 ?_
              refine QP.dropAt 2 ?_
              refine QP.dropAt 1 ?_
              refine QP.dropAt 0 ?_
              refine QP.pick [2] ?_
              exact QP.meet ⟨_, Option.some.inj h, rfl, rfl, rfl⟩
          · replace hc := ne_of_beq_false hc
            rw [if_neg hc] at h
            have hc31 := hc
            clear hc
            refine WL.rest 24 [2] (L' := [(2, .bool false)]) (by kernel_rfl) ?_
            refine QP.dropAt 3 ?_
            refine QP.dropAt 2 ?_
            refine QP.dropAt 1 ?_
            refine QP.dropAt 0 ?_
            refine QP.pick [2] ?_
            exact QP.meet ⟨_, Option.some.inj h, rfl, rfl, rfl⟩
        · replace hc := ne_of_beq_false hc
          rw [if_neg hc] at h
          have hc26 := hc
          clear hc
          refine WL.rest 18 [2] (L' := [(2, .bool false)]) (by kernel_rfl) ?_
          refine QP.dropAt 3 ?_
          refine QP.dropAt 2 ?_
          refine QP.dropAt 1 ?_
          refine QP.dropAt 0 ?_
          refine QP.pick [2] ?_
          exact QP.meet ⟨_, Option.some.inj h, rfl, rfl, rfl⟩
      · replace hc := ne_of_beq_false hc
        rw [if_neg hc] at h
        have hc21 := hc
        clear hc
        refine WL.rest 12 [2] (L' := [(2, .bool false)]) (by kernel_rfl) ?_
        refine QP.dropAt 3 ?_
        refine QP.dropAt 2 ?_
        refine QP.dropAt 1 ?_
        refine QP.dropAt 0 ?_
        refine QP.pick [2] ?_
        exact QP.meet ⟨_, Option.some.inj h, rfl, rfl, rfl⟩
    · replace hc := ne_of_beq_false hc
      rw [if_neg hc] at h
      have hc16 := hc
      clear hc
      refine WL.rest 5 [2] (L' := [(2, .bool false)]) (by kernel_rfl) ?_
      refine QP.dropAt 3 ?_
      refine QP.dropAt 2 ?_
      refine QP.dropAt 1 ?_
      refine QP.dropAt 0 ?_
      refine QP.pick [2] ?_
      exact QP.meet ⟨_, Option.some.inj h, rfl, rfl, rfl⟩
  · rintro _ _ _ ⟨s6, rfl, rfl, rfl, rfl⟩
    clear h
    replace h := hk7
    refine WP.ret ?_
    obtain rfl := Option.some.inj h
    exact QP.returned [2] [.bool s6] _ (by kernel_rfl) (by kernel_rfl) (by kernel_rfl) (fun W hI => ⟨_, _, _, rfl, ⟨rfl, rfl, rfl⟩, hI⟩)
/-- The plain law. -/
def StateNone_Pure : Prop := ∀ (a0 : Int), (Lit.int .i64 a0).wf = true → ∃ k, grapevinelaw19_StateNone k a0 = some true
end Go.Proofs.YtcapnncebfgcfaaGreatDoor.Gf
