/- Walks of Go functions: what each tells, as a plain Lean function, and that the Go code comes to it. Written by gg.py of this repo. -/
import Derived.Test.YtfocilpnbiciaaaDoorT
import Derived.Test.YtfocilpnbiciaaaDoorF3
import Derived.Test.YtfocilpnbiciaaaDoorF7
import Derived.Test.YtfocilpnbiciaaaDoorF8
import Derived.Test.YtfocilpnbiciaaaDoorF9
namespace Go.Proofs.YtfocilpnbiciaaaDoor.Gf
open Go Go.Gg
set_option maxRecDepth 100000
set_option linter.unusedVariables false
set_option linter.unusedSimpArgs false

/-! ### grapevine/grapevinelaw20.TalkReads: function 7 -/
def grapevinelaw20_TalkReads (k : Nat) (l0 : List Int) (a1 : Int) : Option Bool := (if (l0.length : Int) > 1500 then ((grapevinelaw20_awake k ).bind fun t2 => some t2) else (if l0.length + 3 ≤ 1073741824 then ((talk_Read k l0 a1).bind fun t15 => ((grapevineref20_Read k l0 a1).bind fun t20 => (((grapevinelaw0_SameMessage k t15.1 t20.1).bind fun t27 => (if t27 = true then ((grapevinelaw0_Num t15.2).bind fun t38 => (if t38 = t20.2 then ((grapevinelaw0_KeptBytes k l0 l0).bind fun t43 => some t43) else some false)) else some false)).bind fun s25 => ((grapevinelaw0_OverMessage k t15.1).bind fun t47 => ((if s25 = true then ((grapevinelaw0_KeptBytes k l0 l0).bind fun t54 => (if t54 = true then ((grapevinelaw20_awake k ).bind fun t59 => some t59) else some false)) else some false).bind fun s51 => some s51))))) else none))
set_option maxHeartbeats 4000000 in
theorem grapevinelaw20_TalkReads_calls {B : World} {G : GMap} {Γ : List Chunk} {W : World} (HT : Tabs B G) (k : Nat) (l0 : List Int) (a1 : Int) (Al0 : Option Addr) (cl0 : Nat) (Hl0 : Rd (kInt .u8) G Al0 cl0 l0) (r : Bool) (h : grapevinelaw20_TalkReads k l0 a1 = some r) (hI : Inv B G (Γ) W) :
    Calls Tryd.prog 7 [.slice Al0 l0.length cl0, .int .i64 a1].toArray W (Ret B (fun v G' Γ' => v = .bool r ∧ G = G' ∧ Γ = Γ')) := by
  refine calls_WP (Γ := Γ) (G := G) (B := B) Tryd.func7 rfl (by kernel_rfl) ?_ hI
  clear hI
  unfold grapevinelaw20_TalkReads at h
  refine WP.seqP [0, 1] (L' := [(0, .slice Al0 l0.length cl0), (1, .int .i64 a1)]) (by kernel_rfl) ?_
  refine WP.seq ?_
  refine WP.seqP [0, 1, 13] (L' := [(0, .slice Al0 l0.length cl0), (1, .int .i64 a1), (13, .bool (decide ((l0.length : Int) > 1500)))]) (by kernel_rfl) ?_
  refine WP.cond (b := decide ((l0.length : Int) > 1500)) (by kernel_rfl) (fun hc => ?_) (fun hc => ?_)
  · replace hc := of_decide_eq_true hc
    rw [if_pos hc] at h
    have hc1 := hc
    clear hc
    refine WP.seqR ?_
    rw [Option.bind_eq_some_iff] at h
    obtain ⟨t2, ht3, h⟩ := h
    refine WL.op (op := .call { callee := (.value (.func 25)), args := #[], argTypes := #[] }) (ty := 4) (d := some 14) (g := none) (by kernel_rfl) (by kernel_rfl) (by kernel_rfl) (Does.call (f := 25) (args := []) (by kernel_rfl) (fun W hI => (grapevinelaw20_awake_calls HT k   t2 ht3 hI))) ?_
    rintro _ _ _ ⟨rfl, rfl, rfl⟩
    refine WL.restQ 1 [4] (L' := [(4, .bool t2)]) (by kernel_rfl) ?_
    refine WP.ret ?_
    refine QP.thenR ?_
    obtain rfl := Option.some.inj h
    exact QP.returned [4] [.bool t2] _ (by kernel_rfl) (by kernel_rfl) (by kernel_rfl) (fun W hI => ⟨_, _, _, rfl, ⟨rfl, rfl, rfl⟩, hI⟩)
  · replace hc := of_decide_eq_false hc
    rw [if_neg hc] at h
    have hc1 := hc
    clear hc
    refine WP.skip ?_
    refine QP.next ?_
    refine WP.pick [0, 1] ?_
    refine WP.seqR ?_
    refine WL.pure 0 1 [0, 1, 15] (L' := [(0, .slice Al0 l0.length cl0), (1, .int .i64 a1), (15, .slice Al0 l0.length cl0)]) (by kernel_rfl) (by decide) ?_
    by_cases hb6 : l0.length + 3 ≤ 1073741824
    case neg => rw [if_neg hb6] at h; cases h
    rw [if_pos hb6] at h
    refine WL.op (op := .call { callee := (.value (.func 11)), args := #[(.tmp 15)], argTypes := #[22] }) (ty := 22) (d := some 16) (g := none) (by kernel_rfl) (by kernel_rfl) (by kernel_rfl) (Does.call (f := 11) (args := [.slice Al0 l0.length cl0]) (by kernel_rfl) (fun W hI => (grapevinelaw0_LendBytes_calls l0 Al0 cl0 Hl0 hb6 hI))) ?_
    rintro _ _ _ ⟨AR7, cR7, CR7, rfl, HR7, rfl, rfl⟩
    refine WL.freezeN (i := 0) rfl (fun G8 hG9 hle10 nd11 => ?_)
    have Hz12 := HR7.rdN (by rw [← hG9]; exact hle10) nd11
    rw [← hG9] at Hz12
    have Hm13 := Hl0.mono hle10
    have Hd14 := Hz12.head
    refine WL.restQ 2 [0, 1, 5] (L' := [(0, .slice Al0 l0.length cl0), (1, .int .i64 a1), (5, .slice AR7 l0.length cR7)]) (by kernel_rfl) ?_
    refine WP.dropAt 0 ?_
    refine WP.seqR ?_
    refine WL.pure 0 2 [0, 1, 5, 18, 19] (L' := [(0, .slice Al0 l0.length cl0), (1, .int .i64 a1), (5, .slice AR7 l0.length cR7), (18, .slice AR7 l0.length cR7), (19, .int .i64 a1)]) (by kernel_rfl) (by decide) ?_
    rw [Option.bind_eq_some_iff] at h
    obtain ⟨t15, ht16, h⟩ := h
    refine WL.op (op := .call { callee := (.value (.func 34)), args := #[(.tmp 18), (.tmp 19)], argTypes := #[22, 3] }) (ty := 64) (d := some 20) (g := none) (by kernel_rfl) (by kernel_rfl) (by kernel_rfl) (Does.call (f := 34) (args := [.slice AR7 l0.length cR7, .int .i64 a1]) (by kernel_rfl) (fun W hI => (talk_Read_calls (HT.mono hle10) k l0 a1 AR7 cR7 Hd14 t15 ht16 hI))) ?_
    rintro _ _ _ ⟨AR170_0, cR170_0, CR170_0, AR170_1, cR170_1, CR170_1, AR170_2, cR170_2, CR170_2, rfl, HR170_0, HR170_1, HR170_2, rfl, rfl⟩
    refine WL.pure 3 6 [0, 1, 5, 21, 22] (L' := [(0, .slice Al0 l0.length cl0), (1, .int .i64 a1), (5, .slice AR7 l0.length cR7), (21, .agg #[.int .i64 t15.1.f0, .int .i64 t15.1.f1, .int .i64 t15.1.f2, .slice AR170_0 t15.1.f3.length cR170_0, .slice AR170_1 t15.1.f4.length cR170_1, .slice AR170_2 t15.1.f5.length cR170_2]), (22, .int .i64 t15.2)]) (by kernel_rfl) (by decide) ?_
    refine WL.op (op := .alloc 54) (ty := 0) (d := some 6) (g := none) (by kernel_rfl) (by kernel_rfl) (by kernel_rfl) (Does.new (o := .cells #[.int .i64 0, .int .i64 0, .int .i64 0, .slice none 0 0, .slice none 0 0, .slice none 0 0] 54 (0, 0)) (v := fun r => .pointer (some ⟨r, 0, none⟩)) (fun r => by kernel_rfl)) ?_
    rintro _ _ _ ⟨b19, rfl, rfl, rfl⟩
    refine WL.op (op := .store 54 (.tmp 6) (.tmp 21)) (ty := 0) (d := none) (g := none) (by kernel_rfl) (by kernel_rfl) (by kernel_rfl) (Does.store_box (i := 0) (b := b19) (o := 0) (v := .agg #[.int .i64 t15.1.f0, .int .i64 t15.1.f1, .int .i64 t15.1.f2, .slice AR170_0 t15.1.f3.length cR170_0, .slice AR170_1 t15.1.f4.length cR170_1, .slice AR170_2 t15.1.f5.length cR170_2]) (by rfl) sz54 (by kernel_rfl) (by kernel_rfl) (by kernel_rfl) (Free.zero _) (Nat.le_of_ble_eq_true rfl) (cells' := #[.int .i64 t15.1.f0, .int .i64 t15.1.f1, .int .i64 t15.1.f2, .slice AR170_0 t15.1.f3.length cR170_0, .slice AR170_1 t15.1.f4.length cR170_1, .slice AR170_2 t15.1.f5.length cR170_2]) (by kernel_rfl)) ?_
    rintro _ _ _ ⟨rfl, rfl, rfl⟩
    refine WL.restQ 8 [0, 1, 5, 6, 7] (L' := [(0, .slice Al0 l0.length cl0), (1, .int .i64 a1), (5, .slice AR7 l0.length cR7), (6, .pointer (some ⟨b19, 0, none⟩)), (7, .int .i64 t15.2)]) (by kernel_rfl) ?_
    refine WP.seqR ?_
    refine WL.pure 0 2 [0, 5, 6, 7, 24, 25] (L' := [(0, .slice Al0 l0.length cl0), (5, .slice AR7 l0.length cR7), (6, .pointer (some ⟨b19, 0, none⟩)), (7, .int .i64 t15.2), (24, .slice Al0 l0.length cl0), (25, .int .i64 a1)]) (by kernel_rfl) (by decide) ?_
    rw [Option.bind_eq_some_iff] at h
    obtain ⟨t20, ht21, h⟩ := h
    refine WL.op (op := .call { callee := (.value (.func 35)), args := #[(.tmp 24), (.tmp 25)], argTypes := #[22, 3] }) (ty := 66) (d := some 26) (g := none) (by kernel_rfl) (by kernel_rfl) (by kernel_rfl) (Does.call (f := 35) (args := [.slice Al0 l0.length cl0, .int .i64 a1]) (by kernel_rfl) (fun W hI => (grapevineref20_Read_calls (HT.mono hle10) k l0 a1 Al0 cl0 Hm13 t20 ht21 hI))) ?_
    rintro _ _ _ ⟨AR220_0, cR220_0, CR220_0, AR220_1, cR220_1, CR220_1, AR220_2, cR220_2, CR220_2, rfl, HR220_0, HR220_1, HR220_2, rfl, rfl⟩
    refine WL.pure 3 6 [0, 5, 6, 7, 27, 28] (L' := [(0, .slice Al0 l0.length cl0), (5, .slice AR7 l0.length cR7), (6, .pointer (some ⟨b19, 0, none⟩)), (7, .int .i64 t15.2), (27, .agg #[.int .i64 t20.1.f0, .int .i64 t20.1.f1, .int .i64 t20.1.f2, .slice AR220_0 t20.1.f3.length cR220_0, .slice AR220_1 t20.1.f4.length cR220_1, .slice AR220_2 t20.1.f5.length cR220_2]), (28, .int .i64 t20.2)]) (by kernel_rfl) (by decide) ?_
    refine WL.op (op := .alloc 54) (ty := 0) (d := some 8) (g := none) (by kernel_rfl) (by kernel_rfl) (by kernel_rfl) (Does.new (o := .cells #[.int .i64 0, .int .i64 0, .int .i64 0, .slice none 0 0, .slice none 0 0, .slice none 0 0] 54 (0, 0)) (v := fun r => .pointer (some ⟨r, 0, none⟩)) (fun r => by kernel_rfl)) ?_
    rintro _ _ _ ⟨b24, rfl, rfl, rfl⟩
    refine WL.op (op := .store 54 (.tmp 8) (.tmp 27)) (ty := 0) (d := none) (g := none) (by kernel_rfl) (by kernel_rfl) (by kernel_rfl) (Does.store_box (i := 0) (b := b24) (o := 0) (v := .agg #[.int .i64 t20.1.f0, .int .i64 t20.1.f1, .int .i64 t20.1.f2, .slice AR220_0 t20.1.f3.length cR220_0, .slice AR220_1 t20.1.f4.length cR220_1, .slice AR220_2 t20.1.f5.length cR220_2]) (by rfl) sz54 (by kernel_rfl) (by kernel_rfl) (by kernel_rfl) (Free.zero _) (Nat.le_of_ble_eq_true rfl) (cells' := #[.int .i64 t20.1.f0, .int .i64 t20.1.f1, .int .i64 t20.1.f2, .slice AR220_0 t20.1.f3.length cR220_0, .slice AR220_1 t20.1.f4.length cR220_1, .slice AR220_2 t20.1.f5.length cR220_2]) (by kernel_rfl)) ?_
    rintro _ _ _ ⟨rfl, rfl, rfl⟩
    refine WL.restQ 8 [0, 5, 6, 7, 8, 9] (L' := [(0, .slice Al0 l0.length cl0), (5, .slice AR7 l0.length cR7), (6, .pointer (some ⟨b19, 0, none⟩)), (7, .int .i64 t15.2), (8, .pointer (some ⟨b24, 0, none⟩)), (9, .int .i64 t20.2)]) (by kernel_rfl) ?_
    rw [Option.bind_eq_some_iff] at h
    obtain ⟨os25, h, hk26⟩ := h
    refine WP.cut (fun L' G' Γ' => ∃ s25 : Bool, s25 = os25 ∧ L' = [(0, .slice Al0 l0.length cl0), (5, .slice AR7 l0.length cR7), (6, .pointer (some ⟨b19, 0, none⟩)), (10, .bool s25)] ∧ G8 = G' ∧ [(b19, .cells #[.int .i64 t15.1.f0, .int .i64 t15.1.f1, .int .i64 t15.1.f2, .slice AR170_0 t15.1.f3.length cR170_0, .slice AR170_1 t15.1.f4.length cR170_1, .slice AR170_2 t15.1.f5.length cR170_2] 54 (0, 0))] :: CR170_0 :: CR170_1 :: CR170_2 :: Γ = Γ') ?_ ?_
    · clear hk26
      refine WP.region ?_
      refine WL.tell (op := .load 54 (.tmp 6)) (ty := 54) (d := some 29) (g := none) (by kernel_rfl) (by kernel_rfl) (by kernel_rfl) (Tells.load_box (i := 4) (b := b19) (o := 0) (agg := true) (by rfl) ag54 (by kernel_rfl) (fun h => by cases h) (Nat.le_of_ble_eq_true rfl) (v := .agg #[.int .i64 t15.1.f0, .int .i64 t15.1.f1, .int .i64 t15.1.f2, .slice AR170_0 t15.1.f3.length cR170_0, .slice AR170_1 t15.1.f4.length cR170_1, .slice AR170_2 t15.1.f5.length cR170_2]) (by kernel_rfl)) ?_
      refine WL.tell (op := .load 54 (.tmp 8)) (ty := 54) (d := some 30) (g := none) (by kernel_rfl) (by kernel_rfl) (by kernel_rfl) (Tells.load_box (i := 0) (b := b24) (o := 0) (agg := true) (by rfl) ag54 (by kernel_rfl) (fun h => by cases h) (Nat.le_of_ble_eq_true rfl) (v := .agg #[.int .i64 t20.1.f0, .int .i64 t20.1.f1, .int .i64 t20.1.f2, .slice AR220_0 t20.1.f3.length cR220_0, .slice AR220_1 t20.1.f4.length cR220_1, .slice AR220_2 t20.1.f5.length cR220_2]) (by kernel_rfl)) ?_
      rw [Option.bind_eq_some_iff] at h
      obtain ⟨t27, ht28, h⟩ := h
      refine WL.op (op := .call { callee := (.value (.func 32)), args := #[(.tmp 29), (.tmp 30)], argTypes := #[54, 54] }) (ty := 4) (d := some 31) (g := none) (by kernel_rfl) (by kernel_rfl) (by kernel_rfl) (Does.call (Φ := fun v' G' Γ' => v' = .bool t27 ∧ G8 = G' ∧ [(b24, .cells #[.int .i64 t20.1.f0, .int .i64 t20.1.f1, .int .i64 t20.1.f2, .slice AR220_0 t20.1.f3.length cR220_0, .slice AR220_1 t20.1.f4.length cR220_1, .slice AR220_2 t20.1.f5.length cR220_2] 54 (0, 0))] :: CR220_0 :: CR220_1 :: CR220_2 :: [(b19, .cells #[.int .i64 t15.1.f0, .int .i64 t15.1.f1, .int .i64 t15.1.f2, .slice AR170_0 t15.1.f3.length cR170_0, .slice AR170_1 t15.1.f4.length cR170_1, .slice AR170_2 t15.1.f5.length cR170_2] 54 (0, 0))] :: CR170_0 :: CR170_1 :: CR170_2 :: Γ = Γ') (f := 32) (args := [.agg #[.int .i64 t15.1.f0, .int .i64 t15.1.f1, .int .i64 t15.1.f2, .slice AR170_0 t15.1.f3.length cR170_0, .slice AR170_1 t15.1.f4.length cR170_1, .slice AR170_2 t15.1.f5.length cR170_2], .agg #[.int .i64 t20.1.f0, .int .i64 t20.1.f1, .int .i64 t20.1.f2, .slice AR220_0 t20.1.f3.length cR220_0, .slice AR220_1 t20.1.f4.length cR220_1, .slice AR220_2 t20.1.f5.length cR220_2]]) (by kernel_rfl) (fun W hI => (Calls.lendN (Φ := fun v' N => v' = .bool t27 ∧ N = []) (H := []) (i := 5) rfl hI (fun _ e l31 nl31 hI => by subst e; exact Calls.lendN (Φ := fun v' N => v' = .bool t27 ∧ N = []) (H := []) (i := 6) rfl hI (fun _ e l32 nl32 hI => by subst e; exact Calls.lendN (Φ := fun v' N => v' = .bool t27 ∧ N = []) (H := []) (i := 7) rfl hI (fun _ e l33 nl33 hI => by subst e; exact Calls.lendN (Φ := fun v' N => v' = .bool t27 ∧ N = []) (H := []) (i := 1) rfl hI (fun _ e l34 nl34 hI => by subst e; exact Calls.lendN (Φ := fun v' N => v' = .bool t27 ∧ N = []) (H := []) (i := 2) rfl hI (fun _ e l35 nl35 hI => by subst e; exact Calls.lendN (Φ := fun v' N => v' = .bool t27 ∧ N = []) (H := []) (i := 3) rfl hI (fun _ e l36 nl36 hI => by subst e; exact (((grapevinelaw0_SameMessage_calls k t15.1 t20.1 AR170_0 cR170_0 ((((((HR170_0.rdN l31 nl31).mono l32).mono l33).mono l34).mono l35).mono l36) AR170_1 cR170_1 ((((((HR170_1.mono l31).rdN l32 nl32).mono l33).mono l34).mono l35).mono l36) AR170_2 cR170_2 ((((((HR170_2.mono l31).mono l32).rdN l33 nl33).mono l34).mono l35).mono l36) AR220_0 cR220_0 ((((((HR220_0.mono l31).mono l32).mono l33).rdN l34 nl34).mono l35).mono l36) AR220_1 cR220_1 ((((((HR220_1.mono l31).mono l32).mono l33).mono l34).rdN l35 nl35).mono l36) AR220_2 cR220_2 ((((((HR220_2.mono l31).mono l32).mono l33).mono l34).mono l35).rdN l36 nl36) t27 ht28 hI)).mono fun _ _ hr => by obtain ⟨_, _, _, rfl, hd, hI⟩ := hr; obtain ⟨rfl, rfl, rfl⟩ := hd; exact ⟨_, _, _, rfl, ⟨[], ⟨rfl, rfl⟩, rfl, rfl⟩, hI⟩)))))))).mono fun _ _ hr => by obtain ⟨_, _, _, rfl, ⟨_, hd, rfl, rfl⟩, hI⟩ := hr; obtain ⟨rfl, rfl⟩ := hd; exact ⟨_, _, _, rfl, ⟨rfl, rfl, rfl⟩, hI⟩)) ?_
      rintro _ _ _ ⟨rfl, rfl, rfl⟩
      refine WL.pure 3 4 [0, 5, 6, 7, 9, 32] (L' := [(0, .slice Al0 l0.length cl0), (5, .slice AR7 l0.length cR7), (6, .pointer (some ⟨b19, 0, none⟩)), (7, .int .i64 t15.2), (9, .int .i64 t20.2), (32, .bool t27)]) (by kernel_rfl) (by decide) ?_
      refine WL.split 32 (b := t27) (by kernel_rfl) (fun hc => ?_) (fun hc => ?_)
      · replace hc := hc
        rw [if_pos hc] at h
        have hc37 := hc
        clear hc
        refine WL.pure 4 5 [0, 5, 6, 9, 32, 33] (L' := [(0, .slice Al0 l0.length cl0), (5, .slice AR7 l0.length cR7), (6, .pointer (some ⟨b19, 0, none⟩)), (9, .int .i64 t20.2), (32, .bool true), (33, .int .i64 t15.2)]) (by kernel_rfl) (by decide) ?_
        rw [Option.bind_eq_some_iff] at h
        obtain ⟨t38, ht39, h⟩ := h
        refine WL.op (op := .call { callee := (.value (.func 28)), args := #[(.tmp 33)], argTypes := #[43] }) (ty := 3) (d := some 34) (g := some (3, true)) (by kernel_rfl) (by kernel_rfl) (by kernel_rfl) (Does.call (f := 28) (args := [.int .i64 t15.2]) (by kernel_rfl) (fun W hI => (grapevinelaw0_Num_calls t15.2  t38 ht39 hI))) ?_
        rintro _ _ _ ⟨rfl, rfl, rfl⟩
        refine WL.pure 6 10 [0, 5, 6, 38] (L' := [(0, .slice Al0 l0.length cl0), (5, .slice AR7 l0.length cR7), (6, .pointer (some ⟨b19, 0, none⟩)), (38, .bool (t38 == t20.2))]) (by kernel_rfl) (by decide) ?_
        refine WL.split 38 (b := (t38 == t20.2)) (by kernel_rfl) (fun hc => ?_) (fun hc => ?_)
        · replace hc := eq_of_beq hc
          rw [if_pos hc] at h
          have hc42 := hc
          clear hc
          refine WL.pure 10 12 [0, 5, 6, 38, 39, 40] (L' := [(0, .slice Al0 l0.length cl0), (5, .slice AR7 l0.length cR7), (6, .pointer (some ⟨b19, 0, none⟩)), (38, .bool true), (39, .slice AR7 l0.length cR7), (40, .slice Al0 l0.length cl0)]) (by kernel_rfl) (by decide) ?_
          rw [Option.bind_eq_some_iff] at h
          obtain ⟨t43, ht44, h⟩ := h
          refine WL.op (op := .call { callee := (.value (.func 15)), args := #[(.tmp 39), (.tmp 40)], argTypes := #[22, 22] }) (ty := 4) (d := some 41) (g := some (9, true)) (by kernel_rfl) (by kernel_rfl) (by kernel_rfl) (Does.call (f := 15) (args := [.slice AR7 l0.length cR7, .slice Al0 l0.length cl0]) (by kernel_rfl) (fun W hI => (grapevinelaw0_KeptBytes_calls k l0 l0 AR7 cR7 Hd14 Hz12 Al0 cl0 Hm13 t43 ht44 hI))) ?_
          rintro _ _ _ ⟨rfl, rfl, rfl⟩
          refine WL.rest 13 [0, 5, 6, 10] (L' := [(0, .slice Al0 l0.length cl0), (5, .slice AR7 l0.length cR7), (6, .pointer (some ⟨b19, 0, none⟩)), (10, .bool t43)]) (by kernel_rfl) ?_
          refine QP.dropAt 3 ?_
          refine QP.dropAt 2 ?_
          refine QP.dropAt 1 ?_
          refine QP.dropAt 0 ?_
          refine QP.pick [0, 5, 6, 10] ?_
          exact QP.meet ⟨_, Option.some.inj h, rfl, rfl, rfl⟩
        · replace hc := ne_of_beq_false hc
          rw [if_neg hc] at h
          have hc42 := hc
          clear hc
          refine WL.rest 10 [0, 5, 6, 10] (L' := [(0, .slice Al0 l0.length cl0), (5, .slice AR7 l0.length cR7), (6, .pointer (some ⟨b19, 0, none⟩)), (10, .bool false)]) (by kernel_rfl) ?_
          refine QP.dropAt 3 ?_
          refine QP.dropAt 2 ?_
          refine QP.dropAt 1 ?_
          refine QP.dropAt 0 ?_
          refine QP.pick [0, 5, 6, 10] ?_
          exact QP.meet ⟨_, Option.some.inj h, rfl, rfl, rfl⟩
      · replace hc := (Bool.eq_false_iff.1 hc)
        rw [if_neg hc] at h
        have hc37 := hc
        clear hc
        refine WL.rest 4 [0, 5, 6, 10] (L' := [(0, .slice Al0 l0.length cl0), (5, .slice AR7 l0.length cR7), (6, .pointer (some ⟨b19, 0, none⟩)), (10, .bool false)]) (by kernel_rfl) ?_
        refine QP.dropAt 3 ?_
        refine QP.dropAt 2 ?_
        refine QP.dropAt 1 ?_
        refine QP.dropAt 0 ?_
        refine QP.pick [0, 5, 6, 10] ?_
        exact QP.meet ⟨_, Option.some.inj h, rfl, rfl, rfl⟩
    · rintro _ _ _ ⟨s25, rfl, rfl, rfl, rfl⟩
      clear h
      replace h := hk26
      refine WP.seqR ?_
      refine WL.tell (op := .load 54 (.tmp 6)) (ty := 54) (d := some 43) (g := none) (by kernel_rfl) (by kernel_rfl) (by kernel_rfl) (Tells.load_box (i := 0) (b := b19) (o := 0) (agg := true) (by rfl) ag54 (by kernel_rfl) (fun h => by cases h) (Nat.le_of_ble_eq_true rfl) (v := .agg #[.int .i64 t15.1.f0, .int .i64 t15.1.f1, .int .i64 t15.1.f2, .slice AR170_0 t15.1.f3.length cR170_0, .slice AR170_1 t15.1.f4.length cR170_1, .slice AR170_2 t15.1.f5.length cR170_2]) (by kernel_rfl)) ?_
      refine WL.front (i := 3) rfl ?_
      refine WL.front (i := 3) rfl ?_
      refine WL.front (i := 3) rfl ?_
      rw [Option.bind_eq_some_iff] at h
      obtain ⟨t47, ht48, h⟩ := h
      refine WL.op (op := .call { callee := (.value (.func 36)), args := #[(.tmp 43)], argTypes := #[54] }) (ty := 0) (d := some 44) (g := none) (by kernel_rfl) (by kernel_rfl) (by kernel_rfl) (Does.call (f := 36) (args := [.agg #[.int .i64 t15.1.f0, .int .i64 t15.1.f1, .int .i64 t15.1.f2, .slice AR170_0 t15.1.f3.length cR170_0, .slice AR170_1 t15.1.f4.length cR170_1, .slice AR170_2 t15.1.f5.length cR170_2]]) (by kernel_rfl) (fun W hI => (grapevinelaw0_OverMessage_calls k t15.1 AR170_0 cR170_0 CR170_0 HR170_0 AR170_1 cR170_1 CR170_1 HR170_1 AR170_2 cR170_2 CR170_2 HR170_2 t47 ht48 hI))) ?_
      rintro _ _ _ ⟨rfl, rfl, rfl⟩
      refine WL.restQ 2 [0, 5, 10] (L' := [(0, .slice Al0 l0.length cl0), (5, .slice AR7 l0.length cR7), (10, .bool s25)]) (by kernel_rfl) ?_
      refine WP.dropAt 0 ?_
      rw [Option.bind_eq_some_iff] at h
      obtain ⟨os51, h, hk52⟩ := h
      refine WP.cut (fun L' G' Γ' => ∃ s51 : Bool, s51 = os51 ∧ L' = [(4, .bool s51)] ∧ G8 = G' ∧ Γ = Γ') ?_ ?_
      · clear hk52
        refine WP.region ?_
        refine WL.pure 0 2 [0, 5, 46] (L' := [(0, .slice Al0 l0.length cl0), (5, .slice AR7 l0.length cR7), (46, .bool s25)]) (by kernel_rfl) (by decide) ?_
        refine WL.split 46 (b := s25) (by kernel_rfl) (fun hc => ?_) (fun hc => ?_)
        · replace hc := hc
          rw [if_pos hc] at h
          have hc53 := hc
          clear hc
          refine WL.pure 2 4 [46, 47, 48] (L' := [(46, .bool true), (47, .slice AR7 l0.length cR7), (48, .slice Al0 l0.length cl0)]) (by kernel_rfl) (by decide) ?_
          rw [Option.bind_eq_some_iff] at h
          obtain ⟨t54, ht55, h⟩ := h
          refine WL.op (op := .call { callee := (.value (.func 15)), args := #[(.tmp 47), (.tmp 48)], argTypes := #[22, 22] }) (ty := 4) (d := some 49) (g := some (1, true)) (by kernel_rfl) (by kernel_rfl) (by kernel_rfl) (Does.call (f := 15) (args := [.slice AR7 l0.length cR7, .slice Al0 l0.length cl0]) (by kernel_rfl) (fun W hI => (grapevinelaw0_KeptBytes_calls k l0 l0 AR7 cR7 Hd14 Hz12 Al0 cl0 Hm13 t54 ht55 hI))) ?_
          rintro _ _ _ ⟨rfl, rfl, rfl⟩
          refine WL.pure 5 7 [51] (L' := [(51, .bool t54)]) (by kernel_rfl) (by decide) ?_
          refine WL.split 51 (b := t54) (by kernel_rfl) (fun hc => ?_) (fun hc => ?_)
          · replace hc := hc
            rw [if_pos hc] at h
            have hc58 := hc
            clear hc
            rw [Option.bind_eq_some_iff] at h
            obtain ⟨t59, ht60, h⟩ := h
            refine WL.op (op := .call { callee := (.value (.func 25)), args := #[], argTypes := #[] }) (ty := 4) (d := some 52) (g := some (6, true)) (by kernel_rfl) (by kernel_rfl) (by kernel_rfl) (Does.call (f := 25) (args := []) (by kernel_rfl) (fun W hI => (grapevinelaw20_awake_calls (HT.mono hle10) k   t59 ht60 hI))) ?_
            rintro _ _ _ ⟨rfl, rfl, rfl⟩
            refine WL.rest 8 [4] (L' := [(4, .bool t59)]) (by kernel_rfl) ?_
            refine QP.pick [4] ?_
            exact QP.meet ⟨_, Option.some.inj h, rfl, rfl, rfl⟩
          · replace hc := (Bool.eq_false_iff.1 hc)
            rw [if_neg hc] at h
            have hc58 := hc
            clear hc
            refine WL.rest 7 [4] (L' := [(4, .bool false)]) (by kernel_rfl) ?_
            refine QP.pick [4] ?_
            exact QP.meet ⟨_, Option.some.inj h, rfl, rfl, rfl⟩
        · replace hc := (Bool.eq_false_iff.1 hc)
          rw [if_neg hc] at h
          have hc53 := hc
          clear hc
          refine WL.rest 2 [4] (L' := [(4, .bool false)]) (by kernel_rfl) ?_
          refine QP.pick [4] ?_
          exact QP.meet ⟨_, Option.some.inj h, rfl, rfl, rfl⟩
      · rintro _ _ _ ⟨s51, rfl, rfl, rfl, rfl⟩
        clear h
        replace h := hk52
        refine WP.ret ?_
        obtain rfl := Option.some.inj h
        refine QP.lower hle10 ?_
        exact QP.returned [4] [.bool s51] _ (by kernel_rfl) (by kernel_rfl) (by kernel_rfl) (fun W hI => ⟨_, _, _, rfl, ⟨rfl, rfl, rfl⟩, hI⟩)
/-- The plain law. -/
def TalkReads_Pure : Prop := ∀ (l0 : List Int) (a1 : Int), (l0.length ≤ maxLen ∧ ∀ z0 ∈ l0, (Lit.int .u8 z0).wf = true) → (Lit.int .i64 a1).wf = true → ∃ k, grapevinelaw20_TalkReads k l0 a1 = some true
end Go.Proofs.YtfocilpnbiciaaaDoor.Gf
