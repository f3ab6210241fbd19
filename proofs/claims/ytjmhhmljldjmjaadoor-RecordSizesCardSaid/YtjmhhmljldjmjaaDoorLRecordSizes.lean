/- Walks of Go functions: what each tells, as a plain Lean function, and that the Go code comes to it. Written by gg.py of this repo. -/
import Derived.Test.YtjmhhmljldjmjaaDoorT
import Derived.Test.YtjmhhmljldjmjaaDoorF0
import Derived.Test.YtjmhhmljldjmjaaDoorF1
namespace Go.Proofs.YtjmhhmljldjmjaaDoor.Gf
open Go Go.Gg
set_option maxRecDepth 100000
set_option linter.unusedVariables false
set_option linter.unusedSimpArgs false

/-! ### grapevine/grapevinelaw4.RecordSizes: function 6 -/
def grapevinelaw4_RecordSizes (k : Nat) (a0 : T27) (a1 : T27) : Option Bool := ((if (a0.f4.size : Int) > 300 then some true else some (decide ((a1.f4.size : Int) > 300))).bind fun s3 => (if s3 = true then ((grapevinelaw4_awake k ).bind fun t7 => some t7) else ((record_Lay k a0).bind fun t11 => ((record_Lay k a1).bind fun t15 => (((record_May a0).bind fun t21 => (if (!((t11.2 == 0) == t21)) = true then some true else ((record_May a1).bind fun t26 => some (!((t15.2 == 0) == t26))))).bind fun s19 => (if s19 = true then some false else ((if ¬ t11.2 = 0 then some true else some (t15.2 != 0)).bind fun s31 => (if s31 = true then ((if t11.2 = 0 then (if t15.2 = 0 then ((grapevinelaw4_awake k ).bind fun t39 => some t39) else (if (t15.1.length : Int) = 0 then ((grapevinelaw4_awake k ).bind fun t44 => some t44) else some false)) else (if (t11.1.length : Int) = 0 then (if t15.2 = 0 then ((grapevinelaw4_awake k ).bind fun t50 => some t50) else (if (t15.1.length : Int) = 0 then ((grapevinelaw4_awake k ).bind fun t55 => some t55) else some false)) else some false)).bind fun s35 => some s35) else ((if (t11.1.length : Int) = (IntKind.i64.wrap (12 + (a0.f4.size : Int))) then ((grapevinelaw0_SameBytes k t11.1 t15.1).bind fun t62 => ((record_Same a0 a1).bind fun t68 => (if (t62 == t68) = true then ((grapevinelaw4_awake k ).bind fun t73 => some t73) else some false))) else some false).bind fun s59 => some s59)))))))))
set_option maxHeartbeats 4000000 in
theorem grapevinelaw4_RecordSizes_calls {B : World} {G : GMap} {Γ : List Chunk} {W : World} (HT : Tabs B G) (k : Nat) (a0 : T27) (a1 : T27) (r : Bool) (h : grapevinelaw4_RecordSizes k a0 a1 = some r) (hI : Inv B G (Γ) W) :
    Calls Tryd.prog 6 [.agg #[.int .i64 a0.f0, .int .i64 a0.f1, .int .i64 a0.f2, .int .i64 a0.f3, .string a0.f4], .agg #[.int .i64 a1.f0, .int .i64 a1.f1, .int .i64 a1.f2, .int .i64 a1.f3, .string a1.f4]].toArray W (Ret B (fun v G' Γ' => v = .bool r ∧ G = G' ∧ Γ = Γ')) := by
  refine calls_WP (Γ := Γ) (G := G) (B := B) Tryd.func6 rfl (by kernel_rfl) ?_ hI
  clear hI
  unfold grapevinelaw4_RecordSizes at h
  refine WP.seqR ?_
  refine WL.op (op := .box 27 (.tmp 0)) (ty := 0) (d := some 2) (g := none) (by kernel_rfl) (by kernel_rfl) (by kernel_rfl) (Does.new (o := .cells #[.int .i64 a0.f0, .int .i64 a0.f1, .int .i64 a0.f2, .int .i64 a0.f3, .string a0.f4] 27 (0, 0)) (v := fun r => .pointer (some ⟨r, 0, none⟩)) (fun r => by kernel_rfl)) ?_
  rintro _ _ _ ⟨b1, rfl, rfl, rfl⟩
  refine WL.op (op := .box 27 (.tmp 1)) (ty := 0) (d := some 3) (g := none) (by kernel_rfl) (by kernel_rfl) (by kernel_rfl) (Does.new (o := .cells #[.int .i64 a1.f0, .int .i64 a1.f1, .int .i64 a1.f2, .int .i64 a1.f3, .string a1.f4] 27 (0, 0)) (v := fun r => .pointer (some ⟨r, 0, none⟩)) (fun r => by kernel_rfl)) ?_
  rintro _ _ _ ⟨b2, rfl, rfl, rfl⟩
  refine WL.restQ 2 [2, 3] (L' := [(2, .pointer (some ⟨b1, 0, none⟩)), (3, .pointer (some ⟨b2, 0, none⟩))]) (by kernel_rfl) ?_
  refine WP.seq ?_
  rw [Option.bind_eq_some_iff] at h
  obtain ⟨os3, h, hk4⟩ := h
  refine WP.cut (fun L' G' Γ' => ∃ s3 : Bool, s3 = os3 ∧ L' = [(2, .pointer (some ⟨b1, 0, none⟩)), (3, .pointer (some ⟨b2, 0, none⟩)), (18, .bool s3)] ∧ G = G' ∧ [(b2, .cells #[.int .i64 a1.f0, .int .i64 a1.f1, .int .i64 a1.f2, .int .i64 a1.f3, .string a1.f4] 27 (0, 0))] :: [(b1, .cells #[.int .i64 a0.f0, .int .i64 a0.f1, .int .i64 a0.f2, .int .i64 a0.f3, .string a0.f4] 27 (0, 0))] :: Γ = Γ') ?_ ?_
  · clear hk4
    refine WP.region ?_
    refine WL.pure 0 1 [2, 3, 9] (L' := [(2, .pointer (some ⟨b1, 0, none⟩)), (3, .pointer (some ⟨b2, 0, none⟩)), (9, .pointer (some ⟨b1, 4, none⟩))]) (by kernel_rfl) (by decide) ?_
    refine WL.tell (op := .load 9 (.tmp 9)) (ty := 9) (d := some 10) (g := none) (by kernel_rfl) (by kernel_rfl) (by kernel_rfl) (Tells.load_box (i := 1) (b := b1) (o := 4) (agg := false) (by rfl) ag9 (by kernel_rfl) (fun _ => rfl) (Nat.le_of_ble_eq_true rfl) (v := .string a0.f4) (by kernel_rfl)) ?_
    refine WL.pure 2 5 [2, 3, 13] (L' := [(2, .pointer (some ⟨b1, 0, none⟩)), (3, .pointer (some ⟨b2, 0, none⟩)), (13, .bool (decide ((a0.f4.size : Int) > 300)))]) (by kernel_rfl) (by decide) ?_
    refine WL.split 13 (b := decide ((a0.f4.size : Int) > 300)) (by kernel_rfl) (fun hc => ?_) (fun hc => ?_)
    · replace hc := of_decide_eq_true hc
      rw [if_pos hc] at h
      have hc5 := hc
      clear hc
      refine WL.rest 5 [2, 3, 18] (L' := [(2, .pointer (some ⟨b1, 0, none⟩)), (3, .pointer (some ⟨b2, 0, none⟩)), (18, .bool true)]) (by kernel_rfl) ?_
      refine QP.pick [2, 3, 18] ?_
      exact QP.meet ⟨_, Option.some.inj h, rfl, rfl, rfl⟩
    · replace hc := of_decide_eq_false hc
      rw [if_neg hc] at h
      have hc5 := hc
      clear hc
      refine WL.pure 5 6 [2, 3, 13, 14] (L' := [(2, .pointer (some ⟨b1, 0, none⟩)), (3, .pointer (some ⟨b2, 0, none⟩)), (13, .bool false), (14, .pointer (some ⟨b2, 4, none⟩))]) (by kernel_rfl) (by decide) ?_
      refine WL.tell (op := .load 9 (.tmp 14)) (ty := 9) (d := some 15) (g := some (4, false)) (by kernel_rfl) (by kernel_rfl) (by kernel_rfl) (Tells.load_box (i := 0) (b := b2) (o := 4) (agg := false) (by rfl) ag9 (by kernel_rfl) (fun _ => rfl) (Nat.le_of_ble_eq_true rfl) (v := .string a1.f4) (by kernel_rfl)) ?_
      refine WL.rest 7 [2, 3, 18] (L' := [(2, .pointer (some ⟨b1, 0, none⟩)), (3, .pointer (some ⟨b2, 0, none⟩)), (18, .bool (decide ((a1.f4.size : Int) > 300)))]) (by kernel_rfl) ?_
      refine QP.pick [2, 3, 18] ?_
      exact QP.meet ⟨_, Option.some.inj h, rfl, rfl, rfl⟩
  · rintro _ _ _ ⟨s3, rfl, rfl, rfl, rfl⟩
    clear h
    replace h := hk4
    refine WP.cond (b := s3) (by kernel_rfl) (fun hc => ?_) (fun hc => ?_)
    · replace hc := hc
      rw [if_pos hc] at h
      have hc6 := hc
      clear hc
      refine WP.seqR ?_
      rw [Option.bind_eq_some_iff] at h
      obtain ⟨t7, ht8, h⟩ := h
      refine WL.op (op := .call { callee := (.value (.func 13)), args := #[], argTypes := #[] }) (ty := 4) (d := some 19) (g := none) (by kernel_rfl) (by kernel_rfl) (by kernel_rfl) (Does.call (f := 13) (args := []) (by kernel_rfl) (fun W hI => (grapevinelaw4_awake_calls HT k   t7 ht8 hI))) ?_
      rintro _ _ _ ⟨rfl, rfl, rfl⟩
      refine WL.restQ 1 [4] (L' := [(4, .bool t7)]) (by kernel_rfl) ?_
      refine WP.dropAt 1 ?_
      refine WP.dropAt 0 ?_
      refine WP.ret ?_
      refine QP.thenR ?_
      obtain rfl := Option.some.inj h
      exact QP.returned [4] [.bool t7] _ (by kernel_rfl) (by kernel_rfl) (by kernel_rfl) (fun W hI => ⟨_, _, _, rfl, ⟨rfl, rfl, rfl⟩, hI⟩)
    · replace hc := (Bool.eq_false_iff.1 hc)
      rw [if_neg hc] at h
      have hc6 := hc
      clear hc
      refine WP.skip ?_
      refine QP.next ?_
      refine WP.pick [2, 3] ?_
      refine WP.seqR ?_
      refine WL.tell (op := .load 27 (.tmp 2)) (ty := 27) (d := some 21) (g := none) (by kernel_rfl) (by kernel_rfl) (by kernel_rfl) (Tells.load_box (i := 1) (b := b1) (o := 0) (agg := true) (by rfl) ag27 (by kernel_rfl) (fun h => by cases h) (Nat.le_of_ble_eq_true rfl) (v := .agg #[.int .i64 a0.f0, .int .i64 a0.f1, .int .i64 a0.f2, .int .i64 a0.f3, .string a0.f4]) (by kernel_rfl)) ?_
      rw [Option.bind_eq_some_iff] at h
      obtain ⟨t11, ht12, h⟩ := h
      refine WL.op (op := .call { callee := (.value (.func 14)), args := #[(.tmp 21)], argTypes := #[27] }) (ty := 31) (d := some 22) (g := none) (by kernel_rfl) (by kernel_rfl) (by kernel_rfl) (Does.call (f := 14) (args := [.agg #[.int .i64 a0.f0, .int .i64 a0.f1, .int .i64 a0.f2, .int .i64 a0.f3, .string a0.f4]]) (by kernel_rfl) (fun W hI => (record_Lay_calls HT k a0  t11 ht12 hI))) ?_
      rintro _ _ _ ⟨AR130, cR130, CR130, rfl, HR130, rfl, rfl⟩
      refine WL.restQ 2 [2, 3, 5, 6] (L' := [(2, .pointer (some ⟨b1, 0, none⟩)), (3, .pointer (some ⟨b2, 0, none⟩)), (5, .slice AR130 t11.1.length cR130), (6, .int .i64 t11.2)]) (by kernel_rfl) ?_
      refine WP.seqR ?_
      refine WL.tell (op := .load 27 (.tmp 3)) (ty := 27) (d := some 26) (g := none) (by kernel_rfl) (by kernel_rfl) (by kernel_rfl) (Tells.load_box (i := 1) (b := b2) (o := 0) (agg := true) (by rfl) ag27 (by kernel_rfl) (fun h => by cases h) (Nat.le_of_ble_eq_true rfl) (v := .agg #[.int .i64 a1.f0, .int .i64 a1.f1, .int .i64 a1.f2, .int .i64 a1.f3, .string a1.f4]) (by kernel_rfl)) ?_
      rw [Option.bind_eq_some_iff] at h
      obtain ⟨t15, ht16, h⟩ := h
      refine WL.op (op := .call { callee := (.value (.func 14)), args := #[(.tmp 26)], argTypes := #[27] }) (ty := 31) (d := some 27) (g := none) (by kernel_rfl) (by kernel_rfl) (by kernel_rfl) (Does.call (f := 14) (args := [.agg #[.int .i64 a1.f0, .int .i64 a1.f1, .int .i64 a1.f2, .int .i64 a1.f3, .string a1.f4]]) (by kernel_rfl) (fun W hI => (record_Lay_calls HT k a1  t15 ht16 hI))) ?_
      rintro _ _ _ ⟨AR170, cR170, CR170, rfl, HR170, rfl, rfl⟩
      refine WL.restQ 2 [2, 3, 5, 6, 7, 8] (L' := [(2, .pointer (some ⟨b1, 0, none⟩)), (3, .pointer (some ⟨b2, 0, none⟩)), (5, .slice AR130 t11.1.length cR130), (6, .int .i64 t11.2), (7, .slice AR170 t15.1.length cR170), (8, .int .i64 t15.2)]) (by kernel_rfl) ?_
      refine WP.seq ?_
      rw [Option.bind_eq_some_iff] at h
      obtain ⟨os19, h, hk20⟩ := h
      refine WP.cut (fun L' G' Γ' => ∃ s19 : Bool, s19 = os19 ∧ L' = [(2, .pointer (some ⟨b1, 0, none⟩)), (3, .pointer (some ⟨b2, 0, none⟩)), (5, .slice AR130 t11.1.length cR130), (6, .int .i64 t11.2), (7, .slice AR170 t15.1.length cR170), (8, .int .i64 t15.2), (41, .bool s19)] ∧ G = G' ∧ CR170 :: CR130 :: [(b2, .cells #[.int .i64 a1.f0, .int .i64 a1.f1, .int .i64 a1.f2, .int .i64 a1.f3, .string a1.f4] 27 (0, 0))] :: [(b1, .cells #[.int .i64 a0.f0, .int .i64 a0.f1, .int .i64 a0.f2, .int .i64 a0.f3, .string a0.f4] 27 (0, 0))] :: Γ = Γ') ?_ ?_
      · clear hk20
        refine WP.region ?_
        refine WL.pure 0 2 [2, 3, 5, 6, 7, 8, 31] (L' := [(2, .pointer (some ⟨b1, 0, none⟩)), (3, .pointer (some ⟨b2, 0, none⟩)), (5, .slice AR130 t11.1.length cR130), (6, .int .i64 t11.2), (7, .slice AR170 t15.1.length cR170), (8, .int .i64 t15.2), (31, .bool (t11.2 == 0))]) (by kernel_rfl) (by decide) ?_
        refine WL.tell (op := .load 27 (.tmp 2)) (ty := 27) (d := some 32) (g := none) (by kernel_rfl) (by kernel_rfl) (by kernel_rfl) (Tells.load_box (i := 3) (b := b1) (o := 0) (agg := true) (by rfl) ag27 (by kernel_rfl) (fun h => by cases h) (Nat.le_of_ble_eq_true rfl) (v := .agg #[.int .i64 a0.f0, .int .i64 a0.f1, .int .i64 a0.f2, .int .i64 a0.f3, .string a0.f4]) (by kernel_rfl)) ?_
        rw [Option.bind_eq_some_iff] at h
        obtain ⟨t21, ht22, h⟩ := h
        refine WL.op (op := .call { callee := (.value (.func 23)), args := #[(.tmp 32)], argTypes := #[27] }) (ty := 4) (d := some 33) (g := none) (by kernel_rfl) (by kernel_rfl) (by kernel_rfl) (Does.call (f := 23) (args := [.agg #[.int .i64 a0.f0, .int .i64 a0.f1, .int .i64 a0.f2, .int .i64 a0.f3, .string a0.f4]]) (by kernel_rfl) (fun W hI => (record_May_calls HT a0  t21 ht22 hI))) ?_
        rintro _ _ _ ⟨rfl, rfl, rfl⟩
        refine WL.pure 4 6 [2, 3, 5, 6, 7, 8, 35] (L' := [(2, .pointer (some ⟨b1, 0, none⟩)), (3, .pointer (some ⟨b2, 0, none⟩)), (5, .slice AR130 t11.1.length cR130), (6, .int .i64 t11.2), (7, .slice AR170 t15.1.length cR170), (8, .int .i64 t15.2), (35, .bool (!((t11.2 == 0) == t21)))]) (by kernel_rfl) (by decide) ?_
        refine WL.split 35 (b := (!((t11.2 == 0) == t21))) (by kernel_rfl) (fun hc => ?_) (fun hc => ?_)
        · replace hc := hc
          rw [if_pos hc] at h
          have hc25 := hc
          clear hc
          refine WL.rest 6 [2, 3, 5, 6, 7, 8, 41] (L' := [(2, .pointer (some ⟨b1, 0, none⟩)), (3, .pointer (some ⟨b2, 0, none⟩)), (5, .slice AR130 t11.1.length cR130), (6, .int .i64 t11.2), (7, .slice AR170 t15.1.length cR170), (8, .int .i64 t15.2), (41, .bool true)]) (by kernel_rfl) ?_
          refine QP.pick [2, 3, 5, 6, 7, 8, 41] ?_
          exact QP.meet ⟨_, Option.some.inj h, rfl, rfl, rfl⟩
        · replace hc := (Bool.eq_false_iff.1 hc)
          rw [if_neg hc] at h
          have hc25 := hc
          clear hc
          refine WL.pure 6 8 [2, 3, 5, 6, 7, 8, 35, 37] (L' := [(2, .pointer (some ⟨b1, 0, none⟩)), (3, .pointer (some ⟨b2, 0, none⟩)), (5, .slice AR130 t11.1.length cR130), (6, .int .i64 t11.2), (7, .slice AR170 t15.1.length cR170), (8, .int .i64 t15.2), (35, .bool false), (37, .bool (t15.2 == 0))]) (by kernel_rfl) (by decide) ?_
          refine WL.tell (op := .load 27 (.tmp 3)) (ty := 27) (d := some 38) (g := some (5, false)) (by kernel_rfl) (by kernel_rfl) (by kernel_rfl) (Tells.load_box (i := 2) (b := b2) (o := 0) (agg := true) (by rfl) ag27 (by kernel_rfl) (fun h => by cases h) (Nat.le_of_ble_eq_true rfl) (v := .agg #[.int .i64 a1.f0, .int .i64 a1.f1, .int .i64 a1.f2, .int .i64 a1.f3, .string a1.f4]) (by kernel_rfl)) ?_
          rw [Option.bind_eq_some_iff] at h
          obtain ⟨t26, ht27, h⟩ := h
          refine WL.op (op := .call { callee := (.value (.func 23)), args := #[(.tmp 38)], argTypes := #[27] }) (ty := 4) (d := some 39) (g := some (5, false)) (by kernel_rfl) (by kernel_rfl) (by kernel_rfl) (Does.call (f := 23) (args := [.agg #[.int .i64 a1.f0, .int .i64 a1.f1, .int .i64 a1.f2, .int .i64 a1.f3, .string a1.f4]]) (by kernel_rfl) (fun W hI => (record_May_calls HT a1  t26 ht27 hI))) ?_
          rintro _ _ _ ⟨rfl, rfl, rfl⟩
          refine WL.rest 10 [2, 3, 5, 6, 7, 8, 41] (L' := [(2, .pointer (some ⟨b1, 0, none⟩)), (3, .pointer (some ⟨b2, 0, none⟩)), (5, .slice AR130 t11.1.length cR130), (6, .int .i64 t11.2), (7, .slice AR170 t15.1.length cR170), (8, .int .i64 t15.2), (41, .bool (!((t15.2 == 0) == t26)))]) (by kernel_rfl) ?_
          refine QP.pick [2, 3, 5, 6, 7, 8, 41] ?_
          exact QP.meet ⟨_, Option.some.inj h, rfl, rfl, rfl⟩
      · rintro _ _ _ ⟨s19, rfl, rfl, rfl, rfl⟩
        clear h
        replace h := hk20
        refine WP.cond (b := s19) (by kernel_rfl) (fun hc => ?_) (fun hc => ?_)
        · replace hc := hc
          rw [if_pos hc] at h
          have hc30 := hc
          clear hc
          refine WP.seqP [4] (L' := [(4, .bool false)]) (by kernel_rfl) ?_
          refine WP.dropAt 3 ?_
          refine WP.dropAt 2 ?_
          refine WP.dropAt 1 ?_
          refine WP.dropAt 0 ?_
          refine WP.ret ?_
          refine QP.thenR ?_
          obtain rfl := Option.some.inj h
          exact QP.returned [4] [.bool false] _ (by kernel_rfl) (by kernel_rfl) (by kernel_rfl) (fun W hI => ⟨_, _, _, rfl, ⟨rfl, rfl, rfl⟩, hI⟩)
        · replace hc := (Bool.eq_false_iff.1 hc)
          rw [if_neg hc] at h
          have hc30 := hc
          clear hc
          refine WP.skip ?_
          refine QP.next ?_
          refine WP.pick [2, 3, 5, 6, 7, 8] ?_
          refine WP.seq ?_
          rw [Option.bind_eq_some_iff] at h
          obtain ⟨os31, h, hk32⟩ := h
          refine WP.cut (fun L' G' Γ' => ∃ s31 : Bool, s31 = os31 ∧ L' = [(2, .pointer (some ⟨b1, 0, none⟩)), (3, .pointer (some ⟨b2, 0, none⟩)), (5, .slice AR130 t11.1.length cR130), (6, .int .i64 t11.2), (7, .slice AR170 t15.1.length cR170), (8, .int .i64 t15.2), (47, .bool s31)] ∧ G = G' ∧ CR170 :: CR130 :: [(b2, .cells #[.int .i64 a1.f0, .int .i64 a1.f1, .int .i64 a1.f2, .int .i64 a1.f3, .string a1.f4] 27 (0, 0))] :: [(b1, .cells #[.int .i64 a0.f0, .int .i64 a0.f1, .int .i64 a0.f2, .int .i64 a0.f3, .string a0.f4] 27 (0, 0))] :: Γ = Γ') ?_ ?_
          · clear hk32
            refine WP.region ?_
            refine WL.pure 0 3 [2, 3, 5, 6, 7, 8, 44] (L' := [(2, .pointer (some ⟨b1, 0, none⟩)), (3, .pointer (some ⟨b2, 0, none⟩)), (5, .slice AR130 t11.1.length cR130), (6, .int .i64 t11.2), (7, .slice AR170 t15.1.length cR170), (8, .int .i64 t15.2), (44, .bool (t11.2 != 0))]) (by kernel_rfl) (by decide) ?_
            refine WL.split 44 (b := (t11.2 != 0)) (by kernel_rfl) (fun hc => ?_) (fun hc => ?_)
            · replace hc := (bne_iff_ne.1 hc)
              rw [if_pos hc] at h
              have hc33 := hc
              clear hc
              refine WL.rest 3 [2, 3, 5, 6, 7, 8, 47] (L' := [(2, .pointer (some ⟨b1, 0, none⟩)), (3, .pointer (some ⟨b2, 0, none⟩)), (5, .slice AR130 t11.1.length cR130), (6, .int .i64 t11.2), (7, .slice AR170 t15.1.length cR170), (8, .int .i64 t15.2), (47, .bool true)]) (by kernel_rfl) ?_
              refine QP.pick [2, 3, 5, 6, 7, 8, 47] ?_
              exact QP.meet ⟨_, Option.some.inj h, rfl, rfl, rfl⟩
            · replace hc := (not_not_intro (bne_eq_false_iff_eq.1 hc))
              rw [if_neg hc] at h
              have hc33 := hc
              clear hc
              refine WL.rest 3 [2, 3, 5, 6, 7, 8, 47] (L' := [(2, .pointer (some ⟨b1, 0, none⟩)), (3, .pointer (some ⟨b2, 0, none⟩)), (5, .slice AR130 t11.1.length cR130), (6, .int .i64 t11.2), (7, .slice AR170 t15.1.length cR170), (8, .int .i64 t15.2), (47, .bool (t15.2 != 0))]) (by kernel_rfl) ?_
              refine QP.pick [2, 3, 5, 6, 7, 8, 47] ?_
              exact QP.meet ⟨_, Option.some.inj h, rfl, rfl, rfl⟩
          · rintro _ _ _ ⟨s31, rfl, rfl, rfl, rfl⟩
            clear h
            replace h := hk32
            refine WP.cond (b := s31) (by kernel_rfl) (fun hc => ?_) (fun hc => ?_)
            · replace hc := hc
              rw [if_pos hc] at h
              have hc34 := hc
              clear hc
              rw [Option.bind_eq_some_iff] at h
              obtain ⟨os35, h, hk36⟩ := h
              refine WP.cut (fun L' G' Γ' => ∃ s35 : Bool, s35 = os35 ∧ L' = [(4, .bool s35)] ∧ G = G' ∧ CR170 :: CR130 :: [(b2, .cells #[.int .i64 a1.f0, .int .i64 a1.f1, .int .i64 a1.f2, .int .i64 a1.f3, .string a1.f4] 27 (0, 0))] :: [(b1, .cells #[.int .i64 a0.f0, .int .i64 a0.f1, .int .i64 a0.f2, .int .i64 a0.f3, .string a0.f4] 27 (0, 0))] :: Γ = Γ') ?_ ?_
              · clear hk36
                refine WP.region ?_
                refine WL.pure 0 3 [5, 7, 8, 50] (L' := [(5, .slice AR130 t11.1.length cR130), (7, .slice AR170 t15.1.length cR170), (8, .int .i64 t15.2), (50, .bool (t11.2 == 0))]) (by kernel_rfl) (by decide) ?_
                refine WL.split 50 (b := (t11.2 == 0)) (by kernel_rfl) (fun hc => ?_) (fun hc => ?_)
                · replace hc := eq_of_beq hc
                  rw [if_pos hc] at h
                  have hc37 := hc
                  clear hc
                  refine WL.pure 3 11 [7, 55, 58] (L' := [(7, .slice AR170 t15.1.length cR170), (55, .bool true), (58, .bool (t15.2 == 0))]) (by kernel_rfl) (by decide) ?_
                  refine WL.split 58 (b := (t15.2 == 0)) (by kernel_rfl) (fun hc => ?_) (fun hc => ?_)
                  · replace hc := eq_of_beq hc
                    rw [if_pos hc] at h
                    have hc38 := hc
                    clear hc
                    refine WL.pure 11 17 [64] (L' := [(64, .bool true)]) (by kernel_rfl) (by decide) ?_
                    rw [Option.bind_eq_some_iff] at h
                    obtain ⟨t39, ht40, h⟩ := h
                    refine WL.op (op := .call { callee := (.value (.func 13)), args := #[], argTypes := #[] }) (ty := 4) (d := some 65) (g := some (16, true)) (by kernel_rfl) (by kernel_rfl) (by kernel_rfl) (Does.call (f := 13) (args := []) (by kernel_rfl) (fun W hI => (grapevinelaw4_awake_calls HT k   t39 ht40 hI))) ?_
                    rintro _ _ _ ⟨rfl, rfl, rfl⟩
                    refine WL.rest 18 [4] (L' := [(4, .bool t39)]) (by kernel_rfl) ?_
                    refine QP.pick [4] ?_
                    exact QP.meet ⟨_, Option.some.inj h, rfl, rfl, rfl⟩
                  · replace hc := ne_of_beq_false hc
                    rw [if_neg hc] at h
                    have hc38 := hc
                    clear hc
                    refine WL.pure 11 17 [64] (L' := [(64, .bool ((t15.1.length : Int) == 0))]) (by kernel_rfl) (by decide) ?_
                    refine WL.split 64 (b := ((t15.1.length : Int) == 0)) (by kernel_rfl) (fun hc => ?_) (fun hc => ?_)
                    · replace hc := eq_of_beq hc
                      rw [if_pos hc] at h
                      have hc43 := hc
                      clear hc
                      rw [Option.bind_eq_some_iff] at h
                      obtain ⟨t44, ht45, h⟩ := h
                      refine WL.op (op := .call { callee := (.value (.func 13)), args := #[], argTypes := #[] }) (ty := 4) (d := some 65) (g := some (16, true)) (by kernel_rfl) (by kernel_rfl) (by kernel_rfl) (Does.call (f := 13) (args := []) (by kernel_rfl) (fun W hI => (grapevinelaw4_awake_calls HT k   t44 ht45 hI))) ?_
                      rintro _ _ _ ⟨rfl, rfl, rfl⟩
                      refine WL.rest 18 [4] (L' := [(4, .bool t44)]) (by kernel_rfl) ?_
                      refine QP.pick [4] ?_
                      exact QP.meet ⟨_, Option.some.inj h, rfl, rfl, rfl⟩
                    · replace hc := ne_of_beq_false hc
                      rw [if_neg hc] at h
                      have hc43 := hc
                      clear hc
                      refine WL.rest 17 [4] (L' := [(4, .bool false)]) (by kernel_rfl) ?_
                      refine QP.pick [4] ?_
                      exact QP.meet ⟨_, Option.some.inj h, rfl, rfl, rfl⟩
                · replace hc := ne_of_beq_false hc
                  rw [if_neg hc] at h
                  have hc37 := hc
                  clear hc
                  refine WL.pure 3 8 [7, 8, 55] (L' := [(7, .slice AR170 t15.1.length cR170), (8, .int .i64 t15.2), (55, .bool ((t11.1.length : Int) == 0))]) (by kernel_rfl) (by decide) ?_
                  refine WL.split 55 (b := ((t11.1.length : Int) == 0)) (by kernel_rfl) (fun hc => ?_) (fun hc => ?_)
                  · replace hc := eq_of_beq hc
                    rw [if_pos hc] at h
                    have hc48 := hc
                    clear hc
                    refine WL.pure 8 11 [7, 55, 58] (L' := [(7, .slice AR170 t15.1.length cR170), (55, .bool true), (58, .bool (t15.2 == 0))]) (by kernel_rfl) (by decide) ?_
                    refine WL.split 58 (b := (t15.2 == 0)) (by kernel_rfl) (fun hc => ?_) (fun hc => ?_)
                    · replace hc := eq_of_beq hc
                      rw [if_pos hc] at h
                      have hc49 := hc
                      clear hc
                      refine WL.pure 11 17 [64] (L' := [(64, .bool true)]) (by kernel_rfl) (by decide) ?_
                      rw [Option.bind_eq_some_iff] at h
                      obtain ⟨t50, ht51, h⟩ := h
                      refine WL.op (op := .call { callee := (.value (.func 13)), args := #[], argTypes := #[] }) (ty := 4) (d := some 65) (g := some (16, true)) (by kernel_rfl) (by kernel_rfl) (by kernel_rfl) (Does.call (f := 13) (args := []) (by kernel_rfl) (fun W hI => (grapevinelaw4_awake_calls HT k   t50 ht51 hI))) ?_
                      rintro _ _ _ ⟨rfl, rfl, rfl⟩
                      refine WL.rest 18 [4] (L' := [(4, .bool t50)]) (by kernel_rfl) ?_
                      refine QP.pick [4] ?_
                      exact QP.meet ⟨_, Option.some.inj h, rfl, rfl, rfl⟩
                    · replace hc := ne_of_beq_false hc
                      rw [if_neg hc] at h
                      have hc49 := hc
                      clear hc
                      refine WL.pure 11 17 [64] (L' := [(64, .bool ((t15.1.length : Int) == 0))]) (by kernel_rfl) (by decide) ?_
                      refine WL.split 64 (b := ((t15.1.length : Int) == 0)) (by kernel_rfl) (fun hc => ?_) (fun hc => ?_)
                      · replace hc := eq_of_beq hc
                        rw [if_pos hc] at h
                        have hc54 := hc
                        clear hc
                        rw [Option.bind_eq_some_iff] at h
                        obtain ⟨t55, ht56, h⟩ := h
                        refine WL.op (op := .call { callee := (.value (.func 13)), args := #[], argTypes := #[] }) (ty := 4) (d := some 65) (g := some (16, true)) (by kernel_rfl) (by kernel_rfl) (by kernel_rfl) (Does.call (f := 13) (args := []) (by kernel_rfl) (fun W hI => (grapevinelaw4_awake_calls HT k   t55 ht56 hI))) ?_
                        rintro _ _ _ ⟨rfl, rfl, rfl⟩
                        refine WL.rest 18 [4] (L' := [(4, .bool t55)]) (by kernel_rfl) ?_
                        refine QP.pick [4] ?_
                        exact QP.meet ⟨_, Option.some.inj h, rfl, rfl, rfl⟩
                      · replace hc := ne_of_beq_false hc
                        rw [if_neg hc] at h
                        have hc54 := hc
                        clear hc
                        refine WL.rest 17 [4] (L' := [(4, .bool false)]) (by kernel_rfl) ?_
                        refine QP.pick [4] ?_
                        exact QP.meet ⟨_, Option.some.inj h, rfl, rfl, rfl⟩
                  · replace hc := ne_of_beq_false hc
                    rw [if_neg hc] at h
                    have hc48 := hc
                    clear hc
                    refine WL.rest 8 [4] (L' := [(4, .bool false)]) (by kernel_rfl) ?_
                    refine QP.pick [4] ?_
                    exact QP.meet ⟨_, Option.some.inj h, rfl, rfl, rfl⟩
              · rintro _ _ _ ⟨s35, rfl, rfl, rfl, rfl⟩
                clear h
                replace h := hk36
                refine WP.ret ?_
                refine QP.thenR ?_
                obtain rfl := Option.some.inj h
                refine QP.dropAt 3 ?_
                refine QP.dropAt 2 ?_
                refine QP.dropAt 1 ?_
                refine QP.dropAt 0 ?_
                exact QP.returned [4] [.bool s35] _ (by kernel_rfl) (by kernel_rfl) (by kernel_rfl) (fun W hI => ⟨_, _, _, rfl, ⟨rfl, rfl, rfl⟩, hI⟩)
            · replace hc := (Bool.eq_false_iff.1 hc)
              rw [if_neg hc] at h
              have hc34 := hc
              clear hc
              refine WP.skip ?_
              refine QP.next ?_
              refine WP.pick [2, 3, 5, 7] ?_
              rw [Option.bind_eq_some_iff] at h
              obtain ⟨os59, h, hk60⟩ := h
              refine WP.cut (fun L' G' Γ' => ∃ s59 : Bool, s59 = os59 ∧ L' = [(4, .bool s59)] ∧ G = G' ∧ CR170 :: CR130 :: [(b2, .cells #[.int .i64 a1.f0, .int .i64 a1.f1, .int .i64 a1.f2, .int .i64 a1.f3, .string a1.f4] 27 (0, 0))] :: [(b1, .cells #[.int .i64 a0.f0, .int .i64 a0.f1, .int .i64 a0.f2, .int .i64 a0.f3, .string a0.f4] 27 (0, 0))] :: Γ = Γ') ?_ ?_
              · clear hk60
                skip
                refine WP.any (N := 20) (S := [⟨some 67, [5], []⟩, ⟨some 68, [67], [0]⟩, ⟨some 69, [2], []⟩, ⟨some 70, [69], [2]⟩, ⟨some 71, [70], [3]⟩, ⟨some 72, [71], [4]⟩, ⟨some 73, [68, 72], [1, 5]⟩, ⟨some 74, [73], [6]⟩, ⟨some 75, [5, 74], [7]⟩, ⟨some 76, [7, 74], [7]⟩, ⟨some 77, [74, 75, 76], [7, 8, 9]⟩, ⟨some 78, [2, 74], [7]⟩, ⟨some 79, [3, 74], [7]⟩, ⟨some 80, [74, 78, 79], [7, 10, 11, 12]⟩, ⟨some 81, [74, 77, 80], [7, 10, 13]⟩, ⟨some 82, [74, 81], [7, 14]⟩, ⟨some 83, [82], [13, 15]⟩, ⟨some 84, [83], [16]⟩, ⟨some 85, [83, 84], [16, 17]⟩, ⟨some 4, [85], [0, 1, 2, 3, 4, 5, 6, 7, 8, 9, 10, 11, 12, 13, 14, 15, 16, 17, 18]⟩]) (kw := 20) (G0 := G) (Γ0 := CR170 :: CR130 :: [(b2, .cells #[.int .i64 a1.f0, .int .i64 a1.f1, .int .i64 a1.f2, .int .i64 a1.f3, .string a1.f4] 27 (0, 0))] :: [(b1, .cells #[.int .i64 a0.f0, .int .i64 a0.f1, .int .i64 a0.f2, .int .i64 a0.f3, .string a0.f4] 27 (0, 0))] :: Γ) mo (by kernel_rfl) (fun hS => ?_)
                refine WA.pure [0, 1, 2] [2, 3, 5, 7, 68, 69] (m := 17) (b' := 7) (L' := [(2, .pointer (some ⟨b1, 0, none⟩)), (3, .pointer (some ⟨b2, 0, none⟩)), (5, .slice AR130 t11.1.length cR130), (7, .slice AR170 t15.1.length cR170), (68, .int .i64 (t11.1.length : Int)), (69, .pointer (some ⟨b1, 4, none⟩))]) (by kernel_rfl) (NoPanic.then (NoPanic.body)) Under.refl hS (by kernel_rfl) ?_
                refine WA.tellD [] (i := 3) (m := 16) (b' := 15) (by kernel_rfl) (NoPanic.then (NoPanic.body)) Under.refl hS (by kernel_rfl) (op := .load 9 (.tmp 69)) (ty := 9) (d := some 70) (g := none) (by kernel_rfl) (by kernel_rfl) (by kernel_rfl) (Tells.load_box (i := 3) (b := b1) (o := 4) (agg := false) (by rfl) ag9 (by kernel_rfl) (fun _ => rfl) (Nat.le_of_ble_eq_true rfl) (v := .string a0.f4) (by kernel_rfl)) ?_
                refine WA.pure [4, 5, 6, 7] [2, 3, 5, 7, 74] (m := 12) (b' := 255) (L' := [(2, .pointer (some ⟨b1, 0, none⟩)), (3, .pointer (some ⟨b2, 0, none⟩)), (5, .slice AR130 t11.1.length cR130), (7, .slice AR170 t15.1.length cR170), (74, .bool ((t11.1.length : Int) == (IntKind.i64.wrap (12 + (a0.f4.size : Int)))))]) (by kernel_rfl) (NoPanic.then (NoPanic.body)) Under.refl hS (by kernel_rfl) ?_
                refine WA.split 74 (b := ((t11.1.length : Int) == (IntKind.i64.wrap (12 + (a0.f4.size : Int))))) (by kernel_rfl) (fun hc => ?_) (fun hc => ?_)
                · replace hc := eq_of_beq hc
                  rw [if_pos hc] at h
                  have hc61 := hc
                  clear hc
                  refine WA.pure [8, 9] [2, 3, 74, 75, 76] (m := 10) (b' := 1023) (L' := [(2, .pointer (some ⟨b1, 0, none⟩)), (3, .pointer (some ⟨b2, 0, none⟩)), (74, .bool true), (75, .slice AR130 t11.1.length cR130), (76, .slice AR170 t15.1.length cR170)]) (by kernel_rfl) (NoPanic.then (NoPanic.body)) Under.refl hS (by kernel_rfl) ?_
                  refine WA.tellD [] (i := 11) (m := 9) (b' := 3071) (by kernel_rfl) (NoPanic.then (NoPanic.body)) Under.refl hS (by kernel_rfl) (op := .load 27 (.tmp 2)) (ty := 27) (d := some 78) (g := some (7, true)) (by kernel_rfl) (by kernel_rfl) (by kernel_rfl) (Tells.load_box (i := 3) (b := b1) (o := 0) (agg := true) (by rfl) ag27 (by kernel_rfl) (fun h => by cases h) (Nat.le_of_ble_eq_true rfl) (v := .agg #[.int .i64 a0.f0, .int .i64 a0.f1, .int .i64 a0.f2, .int .i64 a0.f3, .string a0.f4]) (by kernel_rfl)) ?_
                  refine WA.tellD [] (i := 12) (m := 8) (b' := 7167) (by kernel_rfl) (NoPanic.then (NoPanic.body)) Under.refl hS (by kernel_rfl) (op := .load 27 (.tmp 3)) (ty := 27) (d := some 79) (g := some (7, true)) (by kernel_rfl) (by kernel_rfl) (by kernel_rfl) (Tells.load_box (i := 2) (b := b2) (o := 0) (agg := true) (by rfl) ag27 (by kernel_rfl) (fun h => by cases h) (Nat.le_of_ble_eq_true rfl) (v := .agg #[.int .i64 a1.f0, .int .i64 a1.f1, .int .i64 a1.f2, .int .i64 a1.f3, .string a1.f4]) (by kernel_rfl)) ?_
                  rw [Option.bind_eq_some_iff] at h
                  obtain ⟨t62, ht63, h⟩ := h
                  refine WA.op (i := 10) (m := 7) (b' := 8191) (by kernel_rfl) hS (by kernel_rfl) (op := .call { callee := (.value (.func 16)), args := #[(.tmp 75), (.tmp 76)], argTypes := #[29, 29] }) (ty := 4) (d := some 77) (g := some (7, true)) (by kernel_rfl) (by kernel_rfl) (by kernel_rfl) (Does.call (Φ := fun v' G' Γ' => v' = .bool t62 ∧ G = G' ∧ CR170 :: CR130 :: [(b2, .cells #[.int .i64 a1.f0, .int .i64 a1.f1, .int .i64 a1.f2, .int .i64 a1.f3, .string a1.f4] 27 (0, 0))] :: [(b1, .cells #[.int .i64 a0.f0, .int .i64 a0.f1, .int .i64 a0.f2, .int .i64 a0.f3, .string a0.f4] 27 (0, 0))] :: Γ = Γ') (f := 16) (args := [.slice AR130 t11.1.length cR130, .slice AR170 t15.1.length cR170]) (by kernel_rfl) (fun W hI => (Calls.lendH (Φ := fun v' N => v' = .bool t62 ∧ N = []) (H := []) (i := 1) rfl (Ow.nodup HR130) hI (fun _ e l66 hI => by subst e; exact Calls.lendH (Φ := fun v' N => v' = .bool t62 ∧ N = []) (H := []) (i := 0) rfl (Ow.nodup (HR170.mono l66)) hI (fun _ e l67 hI => by subst e; exact (((grapevinelaw0_SameBytes_calls k t11.1 t15.1 AR130 cR130 ((HR130.rd l66).mono l67) AR170 cR170 ((HR170.mono l66).rd l67) t62 ht63 hI)).mono fun _ _ hr => by obtain ⟨_, _, _, rfl, hd, hI⟩ := hr; obtain ⟨rfl, rfl, rfl⟩ := hd; exact ⟨_, _, _, rfl, ⟨[], ⟨rfl, rfl⟩, rfl, rfl⟩, hI⟩)))).mono fun _ _ hr => by obtain ⟨_, _, _, rfl, ⟨_, hd, rfl, rfl⟩, hI⟩ := hr; obtain ⟨rfl, rfl⟩ := hd; exact ⟨_, _, _, rfl, ⟨rfl, rfl, rfl⟩, hI⟩)) ?_
                  rintro _ _ _ ⟨rfl, rfl, rfl⟩
                  refine ⟨_, _, Under.refl, Under.refl, ?_⟩
                  rw [Option.bind_eq_some_iff] at h
                  obtain ⟨t68, ht69, h⟩ := h
                  refine WA.op (i := 13) (m := 6) (b' := 16383) (by kernel_rfl) hS (by kernel_rfl) (op := .call { callee := (.value (.func 25)), args := #[(.tmp 78), (.tmp 79)], argTypes := #[27, 27] }) (ty := 4) (d := some 80) (g := some (7, true)) (by kernel_rfl) (by kernel_rfl) (by kernel_rfl) (Does.call (f := 25) (args := [.agg #[.int .i64 a0.f0, .int .i64 a0.f1, .int .i64 a0.f2, .int .i64 a0.f3, .string a0.f4], .agg #[.int .i64 a1.f0, .int .i64 a1.f1, .int .i64 a1.f2, .int .i64 a1.f3, .string a1.f4]]) (by kernel_rfl) (fun W hI => (record_Same_calls a0 a1  t68 ht69 hI))) ?_
                  rintro _ _ _ ⟨rfl, rfl, rfl⟩
                  refine ⟨_, _, Under.refl, Under.refl, ?_⟩
                  refine WA.pure [14, 15, 16] [83] (m := 3) (b' := 131071) (L' := [(83, .bool (t62 == t68))]) (by kernel_rfl) (NoPanic.then (NoPanic.body)) Under.refl hS (by kernel_rfl) ?_
                  refine WA.split 83 (b := (t62 == t68)) (by kernel_rfl) (fun hc => ?_) (fun hc => ?_)
                  · replace hc := hc
                    rw [if_pos hc] at h
                    have hc72 := hc
                    clear hc
                    rw [Option.bind_eq_some_iff] at h
                    obtain ⟨t73, ht74, h⟩ := h
                    refine WA.op (i := 17) (m := 2) (b' := 262143) (by kernel_rfl) hS (by kernel_rfl) (op := .call { callee := (.value (.func 13)), args := #[], argTypes := #[] }) (ty := 4) (d := some 84) (g := some (16, true)) (by kernel_rfl) (by kernel_rfl) (by kernel_rfl) (Does.call (f := 13) (args := []) (by kernel_rfl) (fun W hI => (grapevinelaw4_awake_calls HT k   t73 ht74 hI))) ?_
                    rintro _ _ _ ⟨rfl, rfl, rfl⟩
                    refine ⟨_, _, Under.refl, Under.refl, ?_⟩
                    refine WA.pure [18, 19] [4] (m := 0) (b' := 1048575) (L' := [(4, .bool t73)]) (by kernel_rfl) (NoPanic.then (NoPanic.body)) Under.refl hS (by kernel_rfl) ?_
                    refine WA.done hS (by kernel_rfl) ?_
                    refine QP.pick [4] ?_
                    refine QP.pick [4] ?_
                    exact QP.meet ⟨_, Option.some.inj h, rfl, rfl, rfl⟩
                  · replace hc := (Bool.eq_false_iff.1 hc)
                    rw [if_neg hc] at h
                    have hc72 := hc
                    clear hc
                    refine WA.pure [17, 18, 19] [4] (m := 0) (b' := 1048575) (L' := [(4, .bool false)]) (by kernel_rfl) (NoPanic.then (NoPanic.body)) Under.refl hS (by kernel_rfl) ?_
                    refine WA.done hS (by kernel_rfl) ?_
                    refine QP.pick [4] ?_
                    refine QP.pick [4] ?_
                    exact QP.meet ⟨_, Option.some.inj h, rfl, rfl, rfl⟩
                · replace hc := ne_of_beq_false hc
                  rw [if_neg hc] at h
                  have hc61 := hc
                  clear hc
                  refine WA.pure [8, 9, 10, 11, 12, 13, 14, 15, 16, 17, 18, 19] [4] (m := 0) (b' := 1048575) (L' := [(4, .bool false)]) (by kernel_rfl) (NoPanic.then (NoPanic.body)) Under.refl hS (by kernel_rfl) ?_
                  refine WA.done hS (by kernel_rfl) ?_
                  refine QP.pick [4] ?_
                  refine QP.pick [4] ?_
                  exact QP.meet ⟨_, Option.some.inj h, rfl, rfl, rfl⟩
              · rintro _ _ _ ⟨s59, rfl, rfl, rfl, rfl⟩
                clear h
                replace h := hk60
                refine WP.ret ?_
                obtain rfl := Option.some.inj h
                refine QP.dropAt 3 ?_
                refine QP.dropAt 2 ?_
                refine QP.dropAt 1 ?_
                refine QP.dropAt 0 ?_
                exact QP.returned [4] [.bool s59] _ (by kernel_rfl) (by kernel_rfl) (by kernel_rfl) (fun W hI => ⟨_, _, _, rfl, ⟨rfl, rfl, rfl⟩, hI⟩)
/-- The plain law. -/
def RecordSizes_Pure : Prop := ∀ (a0 : T27) (a1 : T27), ((Lit.int .i64 a0.f0).wf = true ∧ (Lit.int .i64 a0.f1).wf = true ∧ (Lit.int .i64 a0.f2).wf = true ∧ (Lit.int .i64 a0.f3).wf = true ∧ a0.f4.size ≤ maxLen) → ((Lit.int .i64 a1.f0).wf = true ∧ (Lit.int .i64 a1.f1).wf = true ∧ (Lit.int .i64 a1.f2).wf = true ∧ (Lit.int .i64 a1.f3).wf = true ∧ a1.f4.size ≤ maxLen) → ∃ k, grapevinelaw4_RecordSizes k a0 a1 = some true
end Go.Proofs.YtjmhhmljldjmjaaDoor.Gf
