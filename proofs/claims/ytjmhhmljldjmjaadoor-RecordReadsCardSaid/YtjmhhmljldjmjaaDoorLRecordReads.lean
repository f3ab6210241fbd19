/- Walks of Go functions: what each tells, as a plain Lean function, and that the Go code comes to it. Written by gg.py of this repo. -/
import Derived.Test.YtjmhhmljldjmjaaDoorT
import Derived.Test.YtjmhhmljldjmjaaDoorF0
import Derived.Test.YtjmhhmljldjmjaaDoorF1
namespace Go.Proofs.YtjmhhmljldjmjaaDoor.Gf
open Go Go.Gg
set_option maxRecDepth 100000
set_option linter.unusedVariables false
set_option linter.unusedSimpArgs false

/-! ### grapevine/grapevinelaw4.RecordReads: function 4 -/
def grapevinelaw4_RecordReads (k : Nat) (l0 : List Int) (a1 : Int) : Option Bool := (if (l0.length : Int) > 400 then ((grapevinelaw4_awake k ).bind fun t2 => some t2) else (if l0.length + 3 ≤ 1073741824 then ((record_Read k l0 a1).bind fun t14 => ((grapevineref4_Read k l0 a1).bind fun t19 => ((if t14.1 = t19.1 then (if t14.2.1 = t19.2.1 then (if (t14.2.2 == t19.2.2) = true then ((grapevinelaw0_KeptBytes k l0 l0).bind fun t29 => (if t29 = true then ((grapevinelaw4_awake k ).bind fun t34 => some t34) else some false)) else some false) else some false) else some false).bind fun s24 => some s24))) else none))
set_option maxHeartbeats 4000000 in
theorem grapevinelaw4_RecordReads_calls {B : World} {G : GMap} {Γ : List Chunk} {W : World} (HT : Tabs B G) (k : Nat) (l0 : List Int) (a1 : Int) (Al0 : Option Addr) (cl0 : Nat) (Hl0 : Rd (kInt .u8) G Al0 cl0 l0) (r : Bool) (h : grapevinelaw4_RecordReads k l0 a1 = some r) (hI : Inv B G (Γ) W) :
    Calls Tryd.prog 4 [.slice Al0 l0.length cl0, .int .i64 a1].toArray W (Ret B (fun v G' Γ' => v = .bool r ∧ G = G' ∧ Γ = Γ')) := by
  refine calls_WP (Γ := Γ) (G := G) (B := B) Tryd.func4 rfl (by kernel_rfl) ?_ hI
  clear hI
  unfold grapevinelaw4_RecordReads at h
  refine WP.seqP [0, 1] (L' := [(0, .slice Al0 l0.length cl0), (1, .int .i64 a1)]) (by kernel_rfl) ?_
  refine WP.seq ?_
  refine WP.seqP [0, 1, 14] (L' := [(0, .slice Al0 l0.length cl0), (1, .int .i64 a1), (14, .bool (decide ((l0.length : Int) > 400)))]) (by kernel_rfl) ?_
  refine WP.cond (b := decide ((l0.length : Int) > 400)) (by kernel_rfl) (fun hc => ?_) (fun hc => ?_)
  · replace hc := of_decide_eq_true hc
    rw [if_pos hc] at h
    have hc1 := hc
    clear hc
    refine WP.seqR ?_
    rw [Option.bind_eq_some_iff] at h
    obtain ⟨t2, ht3, h⟩ := h
    refine WL.op (op := .call { callee := (.value (.func 13)), args := #[], argTypes := #[] }) (ty := 4) (d := some 15) (g := none) (by kernel_rfl) (by kernel_rfl) (by kernel_rfl) (Does.call (f := 13) (args := []) (by kernel_rfl) (fun W hI => (grapevinelaw4_awake_calls HT k   t2 ht3 hI))) ?_
    rintro _ _ _ ⟨rfl, rfl, rfl⟩
    refine WL.restQ 1 [4] (L' := [(4, .bool t2)]) (by kernel_rfl) ?_
    refine WP.ret ?_
    refine QP.thenR ?_
    obtain rfl := Option.some.inj h
    exact QP.returned [4] [.bool t2] _ (by kernel_rfl) (by kernel_rfl) (by kernel_rfl) (fun W hI => ⟨_, _, _, rfl, ⟨rfl, rfl, rfl⟩, hI⟩)
  · replace hc := of_decide_eq_false hc
    rw [if_neg hc] at h
    have hc1 := hc
    clear hc
    refine WP.skip ?_
    refine QP.next ?_
    refine WP.pick [0, 1] ?_
    refine WP.seqR ?_
    refine WL.pure 0 1 [0, 1, 16] (L' := [(0, .slice Al0 l0.length cl0), (1, .int .i64 a1), (16, .slice Al0 l0.length cl0)]) (by kernel_rfl) (by decide) ?_
    by_cases hb6 : l0.length + 3 ≤ 1073741824
    case neg => rw [if_neg hb6] at h; cases h
    rw [if_pos hb6] at h
    refine WL.op (op := .call { callee := (.value (.func 19)), args := #[(.tmp 16)], argTypes := #[29] }) (ty := 29) (d := some 17) (g := none) (by kernel_rfl) (by kernel_rfl) (by kernel_rfl) (Does.call (f := 19) (args := [.slice Al0 l0.length cl0]) (by kernel_rfl) (fun W hI => (grapevinelaw0_LendBytes_calls l0 Al0 cl0 Hl0 hb6 hI))) ?_
    rintro _ _ _ ⟨AR7, cR7, CR7, rfl, HR7, rfl, rfl⟩
    refine WL.freeze (i := 0) rfl (fun G8 hG9 hle10 => ?_)
    have Hz11 := HR7.rd (by rw [← hG9]; exact hle10)
    rw [← hG9] at Hz11
    have Hm12 := Hl0.mono hle10
    have Hd13 := Hz11.head
    refine WL.restQ 2 [0, 1, 5] (L' := [(0, .slice Al0 l0.length cl0), (1, .int .i64 a1), (5, .slice AR7 l0.length cR7)]) (by kernel_rfl) ?_
    refine WP.dropAt 0 ?_
    refine WP.seqR ?_
    refine WL.pure 0 2 [0, 1, 5, 19, 20] (L' := [(0, .slice Al0 l0.length cl0), (1, .int .i64 a1), (5, .slice AR7 l0.length cR7), (19, .slice AR7 l0.length cR7), (20, .int .i64 a1)]) (by kernel_rfl) (by decide) ?_
    rw [Option.bind_eq_some_iff] at h
    obtain ⟨t14, ht15, h⟩ := h
    refine WL.op (op := .call { callee := (.value (.func 20)), args := #[(.tmp 19), (.tmp 20)], argTypes := #[29, 3] }) (ty := 40) (d := some 21) (g := none) (by kernel_rfl) (by kernel_rfl) (by kernel_rfl) (Does.call (f := 20) (args := [.slice AR7 l0.length cR7, .int .i64 a1]) (by kernel_rfl) (fun W hI => (record_Read_calls (HT.mono hle10) k l0 a1 AR7 cR7 Hd13 t14 ht15 hI))) ?_
    rintro _ _ _ ⟨rfl, rfl, rfl⟩
    refine WL.pure 3 7 [0, 1, 5, 22, 23, 24] (L' := [(0, .slice Al0 l0.length cl0), (1, .int .i64 a1), (5, .slice AR7 l0.length cR7), (22, .agg #[.int .i64 t14.1.f0, .int .i64 t14.1.f1, .int .i64 t14.1.f2, .int .i64 t14.1.f3, .string t14.1.f4]), (23, .int .i64 t14.2.1), (24, .bool t14.2.2)]) (by kernel_rfl) (by decide) ?_
    refine WL.op (op := .alloc 27) (ty := 0) (d := some 6) (g := none) (by kernel_rfl) (by kernel_rfl) (by kernel_rfl) (Does.new (o := .cells #[.int .i64 0, .int .i64 0, .int .i64 0, .int .i64 0, .string (⟨#[]⟩ : ByteArray)] 27 (0, 0)) (v := fun r => .pointer (some ⟨r, 0, none⟩)) (fun r => by kernel_rfl)) ?_
    rintro _ _ _ ⟨b18, rfl, rfl, rfl⟩
    refine WL.op (op := .store 27 (.tmp 6) (.tmp 22)) (ty := 0) (d := none) (g := none) (by kernel_rfl) (by kernel_rfl) (by kernel_rfl) (Does.store_box (i := 0) (b := b18) (o := 0) (v := .agg #[.int .i64 t14.1.f0, .int .i64 t14.1.f1, .int .i64 t14.1.f2, .int .i64 t14.1.f3, .string t14.1.f4]) (by rfl) sz27 (by kernel_rfl) (by kernel_rfl) (by kernel_rfl) (Free.zero _) (Nat.le_of_ble_eq_true rfl) (cells' := #[.int .i64 t14.1.f0, .int .i64 t14.1.f1, .int .i64 t14.1.f2, .int .i64 t14.1.f3, .string t14.1.f4]) (by kernel_rfl)) ?_
    rintro _ _ _ ⟨rfl, rfl, rfl⟩
    refine WL.restQ 9 [0, 1, 5, 6, 7, 8] (L' := [(0, .slice Al0 l0.length cl0), (1, .int .i64 a1), (5, .slice AR7 l0.length cR7), (6, .pointer (some ⟨b18, 0, none⟩)), (7, .int .i64 t14.2.1), (8, .bool t14.2.2)]) (by kernel_rfl) ?_
    refine WP.seqR ?_
    refine WL.pure 0 2 [0, 5, 6, 7, 8, 26, 27] (L' := [(0, .slice Al0 l0.length cl0), (5, .slice AR7 l0.length cR7), (6, .pointer (some ⟨b18, 0, none⟩)), (7, .int .i64 t14.2.1), (8, .bool t14.2.2), (26, .slice Al0 l0.length cl0), (27, .int .i64 a1)]) (by kernel_rfl) (by decide) ?_
    rw [Option.bind_eq_some_iff] at h
    obtain ⟨t19, ht20, h⟩ := h
    refine WL.op (op := .call { callee := (.value (.func 21)), args := #[(.tmp 26), (.tmp 27)], argTypes := #[29, 3] }) (ty := 40) (d := some 28) (g := none) (by kernel_rfl) (by kernel_rfl) (by kernel_rfl) (Does.call (f := 21) (args := [.slice Al0 l0.length cl0, .int .i64 a1]) (by kernel_rfl) (fun W hI => (grapevineref4_Read_calls (HT.mono hle10) k l0 a1 Al0 cl0 Hm12 t19 ht20 hI))) ?_
    rintro _ _ _ ⟨rfl, rfl, rfl⟩
    refine WL.pure 3 7 [0, 5, 6, 7, 8, 29, 30, 31] (L' := [(0, .slice Al0 l0.length cl0), (5, .slice AR7 l0.length cR7), (6, .pointer (some ⟨b18, 0, none⟩)), (7, .int .i64 t14.2.1), (8, .bool t14.2.2), (29, .agg #[.int .i64 t19.1.f0, .int .i64 t19.1.f1, .int .i64 t19.1.f2, .int .i64 t19.1.f3, .string t19.1.f4]), (30, .int .i64 t19.2.1), (31, .bool t19.2.2)]) (by kernel_rfl) (by decide) ?_
    refine WL.op (op := .alloc 27) (ty := 0) (d := some 9) (g := none) (by kernel_rfl) (by kernel_rfl) (by kernel_rfl) (Does.new (o := .cells #[.int .i64 0, .int .i64 0, .int .i64 0, .int .i64 0, .string (⟨#[]⟩ : ByteArray)] 27 (0, 0)) (v := fun r => .pointer (some ⟨r, 0, none⟩)) (fun r => by kernel_rfl)) ?_
    rintro _ _ _ ⟨b23, rfl, rfl, rfl⟩
    refine WL.op (op := .store 27 (.tmp 9) (.tmp 29)) (ty := 0) (d := none) (g := none) (by kernel_rfl) (by kernel_rfl) (by kernel_rfl) (Does.store_box (i := 0) (b := b23) (o := 0) (v := .agg #[.int .i64 t19.1.f0, .int .i64 t19.1.f1, .int .i64 t19.1.f2, .int .i64 t19.1.f3, .string t19.1.f4]) (by rfl) sz27 (by kernel_rfl) (by kernel_rfl) (by kernel_rfl) (Free.zero _) (Nat.le_of_ble_eq_true rfl) (cells' := #[.int .i64 t19.1.f0, .int .i64 t19.1.f1, .int .i64 t19.1.f2, .int .i64 t19.1.f3, .string t19.1.f4]) (by kernel_rfl)) ?_
    rintro _ _ _ ⟨rfl, rfl, rfl⟩
    refine WL.restQ 9 [0, 5, 6, 7, 8, 9, 10, 11] (L' := [(0, .slice Al0 l0.length cl0), (5, .slice AR7 l0.length cR7), (6, .pointer (some ⟨b18, 0, none⟩)), (7, .int .i64 t14.2.1), (8, .bool t14.2.2), (9, .pointer (some ⟨b23, 0, none⟩)), (10, .int .i64 t19.2.1), (11, .bool t19.2.2)]) (by kernel_rfl) ?_
    rw [Option.bind_eq_some_iff] at h
    obtain ⟨os24, h, hk25⟩ := h
    refine WP.cut (fun L' G' Γ' => ∃ s24 : Bool, s24 = os24 ∧ L' = [(4, .bool s24)] ∧ G8 = G' ∧ [(b23, .cells #[.int .i64 t19.1.f0, .int .i64 t19.1.f1, .int .i64 t19.1.f2, .int .i64 t19.1.f3, .string t19.1.f4] 27 (0, 0))] :: [(b18, .cells #[.int .i64 t14.1.f0, .int .i64 t14.1.f1, .int .i64 t14.1.f2, .int .i64 t14.1.f3, .string t14.1.f4] 27 (0, 0))] :: Γ = Γ') ?_ ?_
    · clear hk25
      refine WP.region ?_
      refine WL.tell (op := .load 27 (.tmp 6)) (ty := 27) (d := some 32) (g := none) (by kernel_rfl) (by kernel_rfl) (by kernel_rfl) (Tells.load_box (i := 1) (b := b18) (o := 0) (agg := true) (by rfl) ag27 (by kernel_rfl) (fun h => by cases h) (Nat.le_of_ble_eq_true rfl) (v := .agg #[.int .i64 t14.1.f0, .int .i64 t14.1.f1, .int .i64 t14.1.f2, .int .i64 t14.1.f3, .string t14.1.f4]) (by kernel_rfl)) ?_
      refine WL.tell (op := .load 27 (.tmp 9)) (ty := 27) (d := some 33) (g := none) (by kernel_rfl) (by kernel_rfl) (by kernel_rfl) (Tells.load_box (i := 0) (b := b23) (o := 0) (agg := true) (by rfl) ag27 (by kernel_rfl) (fun h => by cases h) (Nat.le_of_ble_eq_true rfl) (v := .agg #[.int .i64 t19.1.f0, .int .i64 t19.1.f1, .int .i64 t19.1.f2, .int .i64 t19.1.f3, .string t19.1.f4]) (by kernel_rfl)) ?_
      refine WL.tell (op := .binOp .eql 27 (.tmp 32) (.tmp 33) 27) (ty := 4) (d := some 34) (g := none) (by kernel_rfl) (by kernel_rfl) (by kernel_rfl) (Tells.eqAgg (xs := #[.int .i64 t14.1.f0, .int .i64 t14.1.f1, .int .i64 t14.1.f2, .int .i64 t14.1.f3, .string t14.1.f4]) (ys := #[.int .i64 t19.1.f0, .int .i64 t19.1.f1, .int .i64 t19.1.f2, .int .i64 t19.1.f3, .string t19.1.f4]) (ls := [.int t14.1.f0 t19.1.f0, .int t14.1.f1 t19.1.f1, .int t14.1.f2 t19.1.f2, .int t14.1.f3 t19.1.f3, .str t14.1.f4 t19.1.f4]) (by kernel_rfl) (by kernel_rfl) (by kernel_rfl) eg27) ?_
      refine WL.reput 34 (v := .bool ([.int t14.1.f0 t19.1.f0, .int t14.1.f1 t19.1.f1, .int t14.1.f2 t19.1.f2, .int t14.1.f3 t19.1.f3, .str t14.1.f4 t19.1.f4].all Lf.ok)) (v' := .bool (decide (t14.1 = t19.1))) (by kernel_rfl) (by exact (congrArg Value.bool (eqT27 t14.1 t19.1))) ?_
      refine WL.pure 3 4 [0, 5, 7, 8, 10, 11, 35] (L' := [(0, .slice Al0 l0.length cl0), (5, .slice AR7 l0.length cR7), (7, .int .i64 t14.2.1), (8, .bool t14.2.2), (10, .int .i64 t19.2.1), (11, .bool t19.2.2), (35, .bool (decide (t14.1 = t19.1)))]) (by kernel_rfl) (by decide) ?_
      refine WL.split 35 (b := decide (t14.1 = t19.1)) (by kernel_rfl) (fun hc => ?_) (fun hc => ?_)
      · replace hc := of_decide_eq_true hc
        rw [if_pos hc] at h
        have hc26 := hc
        clear hc
        refine WL.pure 4 9 [0, 5, 8, 11, 40] (L' := [(0, .slice Al0 l0.length cl0), (5, .slice AR7 l0.length cR7), (8, .bool t14.2.2), (11, .bool t19.2.2), (40, .bool (t14.2.1 == t19.2.1))]) (by kernel_rfl) (by decide) ?_
        refine WL.split 40 (b := (t14.2.1 == t19.2.1)) (by kernel_rfl) (fun hc => ?_) (fun hc => ?_)
        · replace hc := eq_of_beq hc
          rw [if_pos hc] at h
          have hc27 := hc
          clear hc
          refine WL.pure 9 14 [0, 5, 45] (L' := [(0, .slice Al0 l0.length cl0), (5, .slice AR7 l0.length cR7), (45, .bool (t14.2.2 == t19.2.2))]) (by kernel_rfl) (by decide) ?_
          refine WL.split 45 (b := (t14.2.2 == t19.2.2)) (by kernel_rfl) (fun hc => ?_) (fun hc => ?_)
          · replace hc := hc
            rw [if_pos hc] at h
            have hc28 := hc
            clear hc
            refine WL.pure 14 16 [45, 46, 47] (L' := [(45, .bool true), (46, .slice AR7 l0.length cR7), (47, .slice Al0 l0.length cl0)]) (by kernel_rfl) (by decide) ?_
            rw [Option.bind_eq_some_iff] at h
            obtain ⟨t29, ht30, h⟩ := h
            refine WL.op (op := .call { callee := (.value (.func 22)), args := #[(.tmp 46), (.tmp 47)], argTypes := #[29, 29] }) (ty := 4) (d := some 48) (g := some (13, true)) (by kernel_rfl) (by kernel_rfl) (by kernel_rfl) (Does.call (f := 22) (args := [.slice AR7 l0.length cR7, .slice Al0 l0.length cl0]) (by kernel_rfl) (fun W hI => (grapevinelaw0_KeptBytes_calls k l0 l0 AR7 cR7 Hd13 Hz11 Al0 cl0 Hm12 t29 ht30 hI))) ?_
            rintro _ _ _ ⟨rfl, rfl, rfl⟩
            refine WL.pure 17 19 [50] (L' := [(50, .bool t29)]) (by kernel_rfl) (by decide) ?_
            refine WL.split 50 (b := t29) (by kernel_rfl) (fun hc => ?_) (fun hc => ?_)
            · replace hc := hc
              rw [if_pos hc] at h
              have hc33 := hc
              clear hc
              rw [Option.bind_eq_some_iff] at h
              obtain ⟨t34, ht35, h⟩ := h
              refine WL.op (op := .call { callee := (.value (.func 13)), args := #[], argTypes := #[] }) (ty := 4) (d := some 51) (g := some (18, true)) (by kernel_rfl) (by kernel_rfl) (by kernel_rfl) (Does.call (f := 13) (args := []) (by kernel_rfl) (fun W hI => (grapevinelaw4_awake_calls (HT.mono hle10) k   t34 ht35 hI))) ?_
              rintro _ _ _ ⟨rfl, rfl, rfl⟩
              refine WL.rest 20 [4] (L' := [(4, .bool t34)]) (by kernel_rfl) ?_
              refine QP.pick [4] ?_
              exact QP.meet ⟨_, Option.some.inj h, rfl, rfl, rfl⟩
            · replace hc := (Bool.eq_false_iff.1 hc)
              rw [if_neg hc] at h
              have hc33 := hc
              clear hc
              refine WL.rest 19 [4] (L' := [(4, .bool false)]) (by kernel_rfl) ?_
              refine QP.pick [4] ?_
              exact QP.meet ⟨_, Option.some.inj h, rfl, rfl, rfl⟩
          · replace hc := (Bool.eq_false_iff.1 hc)
            rw [if_neg hc] at h
            have hc28 := hc
            clear hc
            refine WL.rest 14 [4] (L' := [(4, .bool false)]) (by kernel_rfl) ?_
            refine QP.pick [4] ?_
            exact QP.meet ⟨_, Option.some.inj h, rfl, rfl, rfl⟩
        · replace hc := ne_of_beq_false hc
          rw [if_neg hc] at h
          have hc27 := hc
          clear hc
          refine WL.rest 9 [4] (L' := [(4, .bool false)]) (by kernel_rfl) ?_
          refine QP.pick [4] ?_
          exact QP.meet ⟨_, Option.some.inj h, rfl, rfl, rfl⟩
      · replace hc := of_decide_eq_false hc
        rw [if_neg hc] at h
        have hc26 := hc
        clear hc
        refine WL.rest 4 [4] (L' := [(4, .bool false)]) (by kernel_rfl) ?_
        refine QP.pick [4] ?_
        exact QP.meet ⟨_, Option.some.inj h, rfl, rfl, rfl⟩
    · rintro _ _ _ ⟨s24, rfl, rfl, rfl, rfl⟩
      clear h
      replace h := hk25
      refine WP.ret ?_
      obtain rfl := Option.some.inj h
      refine QP.dropAt 1 ?_
      refine QP.dropAt 0 ?_
      refine QP.lower hle10 ?_
      exact QP.returned [4] [.bool s24] _ (by kernel_rfl) (by kernel_rfl) (by kernel_rfl) (fun W hI => ⟨_, _, _, rfl, ⟨rfl, rfl, rfl⟩, hI⟩)
/-- The plain law. -/
def RecordReads_Pure : Prop := ∀ (l0 : List Int) (a1 : Int), (l0.length ≤ maxLen ∧ ∀ z0 ∈ l0, (Lit.int .u8 z0).wf = true) → (Lit.int .i64 a1).wf = true → ∃ k, grapevinelaw4_RecordReads k l0 a1 = some true
end Go.Proofs.YtjmhhmljldjmjaaDoor.Gf
