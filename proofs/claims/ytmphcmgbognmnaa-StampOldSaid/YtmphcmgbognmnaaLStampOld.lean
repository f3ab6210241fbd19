/- Walks of Go functions: what each tells, as a plain Lean function, and that the Go code comes to it. Written by gg.py of this repo. -/
import Derived.Test.YtmphcmgbognmnaaT
import Derived.Test.YtmphcmgbognmnaaF0
namespace Go.Proofs.Ytmphcmgbognmnaa.Gf
open Go Go.Gg
set_option maxRecDepth 100000
set_option linter.unusedVariables false
set_option linter.unusedSimpArgs false

/-! ### grapevine/grapevinelaw2.StampOld: function 9 -/
def grapevinelaw2_StampOld (k : Nat) (a0 : T23) (a1 : T23) (a2 : Int) : Option Bool := ((stamp_New a0).bind fun t3 => Option.elim t3 ((stamp_New a0).bind fun t7 => Option.elim t7 ((grapevinelaw2_awake k ).bind fun t11 => some t11) (fun x10 => ((grapevinelaw2_awake k ).bind fun t15 => some t15))) (fun x6 => ((stamp_New a0).bind fun t19 => Option.elim t19 ((grapevinelaw2_awake k ).bind fun t23 => some t23) (fun x22 => (((stamp_May a1).bind fun t29 => (if (!t29) = true then some true else ((stamp_Less a0 a1).bind fun t34 => (if t34 = true then some true else (if a2 < 0 then some true else some (decide (a2 > 1099511627776))))))).bind fun s27 => (if s27 = true then ((grapevinelaw2_awake k ).bind fun t41 => some t41) else ((stamp_Clock_See k x6 a1 a2).bind fun t45 => ((stamp_Clock_Tick x22 a2).bind fun t49 => (if t45.1 = 5 then ((if a1.f0 > (IntKind.i64.wrap (a2 + 1000)) then ((stamp_Clock_Last t45.2).bind fun t58 => (if t58 = a0 then ((grapevinelaw2_awake k ).bind fun t63 => some t63) else some false)) else some false).bind fun s55 => some s55) else ((if t45.1 = t49.2.1 then ((stamp_Clock_Last t45.2).bind fun t70 => ((stamp_Clock_Last t49.2.2).bind fun t74 => (if t70 = t74 then (if ¬ t49.2.1 = 0 then ((grapevinelaw2_awake k ).bind fun t80 => some t80) else ((stamp_Clock_Last t45.2).bind fun t84 => (if t49.1 = t84 then ((grapevinelaw2_awake k ).bind fun t89 => some t89) else some false))) else some false))) else some false).bind fun s67 => some s67))))))))))
set_option maxHeartbeats 4000000 in
theorem grapevinelaw2_StampOld_calls {B : World} {G : GMap} {Γ : List Chunk} {W : World} (k : Nat) (a0 : T23) (a1 : T23) (a2 : Int) (r : Bool) (h : grapevinelaw2_StampOld k a0 a1 a2 = some r) (hI : Inv B G (Γ) W) :
    Calls Try.prog 9 [.agg #[.int .i64 a0.f0, .int .i64 a0.f1], .agg #[.int .i64 a1.f0, .int .i64 a1.f1], .int .i64 a2].toArray W (Ret B (fun v G' Γ' => v = .bool r ∧ G = G' ∧ Γ = Γ')) := by
  refine calls_WP (Γ := Γ) (G := G) (B := B) Try.func9 rfl (by kernel_rfl) ?_ hI
  clear hI
  unfold grapevinelaw2_StampOld at h
  refine WP.seqR ?_
  refine WL.op (op := .box 23 (.tmp 0)) (ty := 0) (d := some 3) (g := none) (by kernel_rfl) (by kernel_rfl) (by kernel_rfl) (Does.new (o := .cells #[.int .i64 a0.f0, .int .i64 a0.f1] 23 (0, 0)) (v := fun r => .pointer (some ⟨r, 0, none⟩)) (fun r => by kernel_rfl)) ?_
  rintro _ _ _ ⟨b1, rfl, rfl, rfl⟩
  refine WL.op (op := .box 23 (.tmp 1)) (ty := 0) (d := some 4) (g := none) (by kernel_rfl) (by kernel_rfl) (by kernel_rfl) (Does.new (o := .cells #[.int .i64 a1.f0, .int .i64 a1.f1] 23 (0, 0)) (v := fun r => .pointer (some ⟨r, 0, none⟩)) (fun r => by kernel_rfl)) ?_
  rintro _ _ _ ⟨b2, rfl, rfl, rfl⟩
  refine WL.restQ 2 [2, 3, 4] (L' := [(2, .int .i64 a2), (3, .pointer (some ⟨b1, 0, none⟩)), (4, .pointer (some ⟨b2, 0, none⟩))]) (by kernel_rfl) ?_
  refine WP.seq ?_
  refine WP.any (N := 6) (S := [⟨some 12, [3], []⟩, ⟨some 13, [12], [0]⟩, ⟨some 14, [3], []⟩, ⟨some 15, [14], [1, 2]⟩, ⟨some 7, [13], [0, 1, 3]⟩, ⟨some 8, [15], [0, 1, 2, 3, 4]⟩]) (kw := 6) (G0 := G) (Γ0 := [(b2, .cells #[.int .i64 a1.f0, .int .i64 a1.f1] 23 (0, 0))] :: [(b1, .cells #[.int .i64 a0.f0, .int .i64 a0.f1] 23 (0, 0))] :: Γ) mo (by kernel_rfl) (fun hS => ?_)
  refine WA.tellD [] (i := 0) (m := 5) (b' := 1) (by kernel_rfl) (NoPanic.then (NoPanic.body)) Under.refl hS (by kernel_rfl) (op := .load 23 (.tmp 3)) (ty := 23) (d := some 12) (g := none) (by kernel_rfl) (by kernel_rfl) (by kernel_rfl) (Tells.load_box (i := 1) (b := b1) (o := 0) (agg := true) (by rfl) ag23 (by kernel_rfl) (fun h => by cases h) (Nat.le_of_ble_eq_true rfl) (v := .agg #[.int .i64 a0.f0, .int .i64 a0.f1]) (by kernel_rfl)) ?_
  refine WA.tellD [] (i := 2) (m := 4) (b' := 5) (by kernel_rfl) (NoPanic.then (NoPanic.body)) Under.refl hS (by kernel_rfl) (op := .load 23 (.tmp 3)) (ty := 23) (d := some 14) (g := none) (by kernel_rfl) (by kernel_rfl) (by kernel_rfl) (Tells.load_box (i := 1) (b := b1) (o := 0) (agg := true) (by rfl) ag23 (by kernel_rfl) (fun h => by cases h) (Nat.le_of_ble_eq_true rfl) (v := .agg #[.int .i64 a0.f0, .int .i64 a0.f1]) (by kernel_rfl)) ?_
  rw [Option.bind_eq_some_iff] at h
  obtain ⟨t3, ht4, h⟩ := h
  refine WA.op (i := 1) (m := 3) (b' := 7) (by kernel_rfl) hS (by kernel_rfl) (op := .call { callee := (.value (.func 24)), args := #[(.tmp 12)], argTypes := #[23] }) (ty := 30) (d := some 13) (g := none) (by kernel_rfl) (by kernel_rfl) (by kernel_rfl) (Does.call (f := 24) (args := [.agg #[.int .i64 a0.f0, .int .i64 a0.f1]]) (by kernel_rfl) (fun W hI => (stamp_New_calls a0  t3 ht4 hI))) ?_
  rintro _ _ _ (⟨hx, rfl, rfl, rfl⟩ | ⟨x6, hx, bR5, rfl, rfl, rfl⟩)
  · rw [hx] at h
    rw [Option.elim_none] at h
    clear hx
    refine ⟨_, _, Under.refl, Under.refl, ?_⟩
    rw [Option.bind_eq_some_iff] at h
    obtain ⟨t7, ht8, h⟩ := h
    refine WA.op (i := 3) (m := 2) (b' := 15) (by kernel_rfl) hS (by kernel_rfl) (op := .call { callee := (.value (.func 24)), args := #[(.tmp 14)], argTypes := #[23] }) (ty := 30) (d := some 15) (g := none) (by kernel_rfl) (by kernel_rfl) (by kernel_rfl) (Does.call (f := 24) (args := [.agg #[.int .i64 a0.f0, .int .i64 a0.f1]]) (by kernel_rfl) (fun W hI => (stamp_New_calls a0  t7 ht8 hI))) ?_
    rintro _ _ _ (⟨hx, rfl, rfl, rfl⟩ | ⟨x10, hx, bR9, rfl, rfl, rfl⟩)
    · rw [hx] at h
      rw [Option.elim_none] at h
      clear hx
      refine ⟨_, _, Under.refl, Under.refl, ?_⟩
      refine WA.pure [4, 5] [2, 3, 4, 7, 8] (m := 0) (b' := 63) (L' := [(2, .int .i64 a2), (3, .pointer (some ⟨b1, 0, none⟩)), (4, .pointer (some ⟨b2, 0, none⟩)), (7, .pointer none), (8, .pointer none)]) (by kernel_rfl) (NoPanic.then (NoPanic.body)) Under.refl hS (by kernel_rfl) ?_
      refine WA.done hS (by kernel_rfl) ?_
      refine QP.pick [2, 3, 4, 7, 8] ?_
      refine QP.next ?_
      refine WP.seq ?_
      refine WP.seqP [2, 3, 4, 7, 8, 39] (L' := [(2, .int .i64 a2), (3, .pointer (some ⟨b1, 0, none⟩)), (4, .pointer (some ⟨b2, 0, none⟩)), (7, .pointer none), (8, .pointer none), (39, .bool true)]) (by kernel_rfl) ?_
      refine WP.yes (by kernel_rfl) ?_
      refine WP.seqR ?_
      rw [Option.bind_eq_some_iff] at h
      obtain ⟨t11, ht12, h⟩ := h
      refine WL.op (op := .call { callee := (.value (.func 17)), args := #[], argTypes := #[] }) (ty := 4) (d := some 40) (g := none) (by kernel_rfl) (by kernel_rfl) (by kernel_rfl) (Does.call (f := 17) (args := []) (by kernel_rfl) (fun W hI => (grapevinelaw2_awake_calls k   t11 ht12 hI))) ?_
      rintro _ _ _ ⟨rfl, rfl, rfl⟩
      refine WL.restQ 1 [6] (L' := [(6, .bool t11)]) (by kernel_rfl) ?_
      refine WP.dropAt 1 ?_
      refine WP.dropAt 0 ?_
      refine WP.ret ?_
      refine QP.thenR ?_
      obtain rfl := Option.some.inj h
      exact QP.returned [6] [.bool t11] _ (by kernel_rfl) (by kernel_rfl) (by kernel_rfl) (fun W hI => ⟨_, _, _, rfl, ⟨rfl, rfl, rfl⟩, hI⟩)
    · rw [hx] at h
      rw [Option.elim_some] at h
      clear hx
      refine ⟨_, _, Under.cons (Under.refl), Under.refl, ?_⟩
      refine WA.pure [4, 5] [2, 3, 4, 7, 8] (m := 0) (b' := 63) (L' := [(2, .int .i64 a2), (3, .pointer (some ⟨b1, 0, none⟩)), (4, .pointer (some ⟨b2, 0, none⟩)), (7, .pointer none), (8, .pointer (some ⟨bR9, 0, none⟩))]) (by kernel_rfl) (NoPanic.then (NoPanic.body)) Under.refl hS (by kernel_rfl) ?_
      refine WA.done hS (by kernel_rfl) ?_
      refine QP.pick [2, 3, 4, 7, 8] ?_
      refine QP.next ?_
      refine WP.seq ?_
      refine WP.seqP [2, 3, 4, 7, 8, 39] (L' := [(2, .int .i64 a2), (3, .pointer (some ⟨b1, 0, none⟩)), (4, .pointer (some ⟨b2, 0, none⟩)), (7, .pointer none), (8, .pointer (some ⟨bR9, 0, none⟩)), (39, .bool true)]) (by kernel_rfl) ?_
      refine WP.yes (by kernel_rfl) ?_
      refine WP.seqR ?_
      rw [Option.bind_eq_some_iff] at h
      obtain ⟨t15, ht16, h⟩ := h
      refine WL.op (op := .call { callee := (.value (.func 17)), args := #[], argTypes := #[] }) (ty := 4) (d := some 40) (g := none) (by kernel_rfl) (by kernel_rfl) (by kernel_rfl) (Does.call (f := 17) (args := []) (by kernel_rfl) (fun W hI => (grapevinelaw2_awake_calls k   t15 ht16 hI))) ?_
      rintro _ _ _ ⟨rfl, rfl, rfl⟩
      refine WL.restQ 1 [6] (L' := [(6, .bool t15)]) (by kernel_rfl) ?_
      refine WP.dropAt 2 ?_
      refine WP.dropAt 1 ?_
      refine WP.dropAt 0 ?_
      refine WP.ret ?_
      refine QP.thenR ?_
      obtain rfl := Option.some.inj h
      exact QP.returned [6] [.bool t15] _ (by kernel_rfl) (by kernel_rfl) (by kernel_rfl) (fun W hI => ⟨_, _, _, rfl, ⟨rfl, rfl, rfl⟩, hI⟩)
  · rw [hx] at h
    rw [Option.elim_some] at h
    clear hx
    refine ⟨_, _, Under.cons (Under.refl), Under.refl, ?_⟩
    rw [Option.bind_eq_some_iff] at h
    obtain ⟨t19, ht20, h⟩ := h
    refine WA.op (i := 3) (m := 2) (b' := 15) (by kernel_rfl) hS (by kernel_rfl) (op := .call { callee := (.value (.func 24)), args := #[(.tmp 14)], argTypes := #[23] }) (ty := 30) (d := some 15) (g := none) (by kernel_rfl) (by kernel_rfl) (by kernel_rfl) (Does.call (f := 24) (args := [.agg #[.int .i64 a0.f0, .int .i64 a0.f1]]) (by kernel_rfl) (fun W hI => (stamp_New_calls a0  t19 ht20 hI))) ?_
    rintro _ _ _ (⟨hx, rfl, rfl, rfl⟩ | ⟨x22, hx, bR21, rfl, rfl, rfl⟩)
    · rw [hx] at h
      rw [Option.elim_none] at h
      clear hx
      refine ⟨_, _, Under.refl, Under.refl, ?_⟩
      refine WA.pure [4, 5] [2, 3, 4, 7, 8] (m := 0) (b' := 63) (L' := [(2, .int .i64 a2), (3, .pointer (some ⟨b1, 0, none⟩)), (4, .pointer (some ⟨b2, 0, none⟩)), (7, .pointer (some ⟨bR5, 0, none⟩)), (8, .pointer none)]) (by kernel_rfl) (NoPanic.then (NoPanic.body)) Under.refl hS (by kernel_rfl) ?_
      refine WA.done hS (by kernel_rfl) ?_
      refine QP.pick [2, 3, 4, 7, 8] ?_
      refine QP.next ?_
      refine WP.seq ?_
      refine WP.seqP [2, 3, 4, 7, 8, 39] (L' := [(2, .int .i64 a2), (3, .pointer (some ⟨b1, 0, none⟩)), (4, .pointer (some ⟨b2, 0, none⟩)), (7, .pointer (some ⟨bR5, 0, none⟩)), (8, .pointer none), (39, .bool true)]) (by kernel_rfl) ?_
      refine WP.yes (by kernel_rfl) ?_
      refine WP.seqR ?_
      rw [Option.bind_eq_some_iff] at h
      obtain ⟨t23, ht24, h⟩ := h
      refine WL.op (op := .call { callee := (.value (.func 17)), args := #[], argTypes := #[] }) (ty := 4) (d := some 40) (g := none) (by kernel_rfl) (by kernel_rfl) (by kernel_rfl) (Does.call (f := 17) (args := []) (by kernel_rfl) (fun W hI => (grapevinelaw2_awake_calls k   t23 ht24 hI))) ?_
      rintro _ _ _ ⟨rfl, rfl, rfl⟩
      refine WL.restQ 1 [6] (L' := [(6, .bool t23)]) (by kernel_rfl) ?_
      refine WP.dropAt 2 ?_
      refine WP.dropAt 1 ?_
      refine WP.dropAt 0 ?_
      refine WP.ret ?_
      refine QP.thenR ?_
      obtain rfl := Option.some.inj h
      exact QP.returned [6] [.bool t23] _ (by kernel_rfl) (by kernel_rfl) (by kernel_rfl) (fun W hI => ⟨_, _, _, rfl, ⟨rfl, rfl, rfl⟩, hI⟩)
    · rw [hx] at h
      rw [Option.elim_some] at h
      clear hx
      refine ⟨_, _, Under.cons (Under.refl), Under.refl, ?_⟩
      refine WA.pure [4, 5] [2, 3, 4, 7, 8] (m := 0) (b' := 63) (L' := [(2, .int .i64 a2), (3, .pointer (some ⟨b1, 0, none⟩)), (4, .pointer (some ⟨b2, 0, none⟩)), (7, .pointer (some ⟨bR5, 0, none⟩)), (8, .pointer (some ⟨bR21, 0, none⟩))]) (by kernel_rfl) (NoPanic.then (NoPanic.body)) Under.refl hS (by kernel_rfl) ?_
      refine WA.done hS (by kernel_rfl) ?_
      refine QP.pick [2, 3, 4, 7, 8] ?_
      refine QP.next ?_
      refine WP.seq ?_
      rw [Option.bind_eq_some_iff] at h
      obtain ⟨os27, h, hk28⟩ := h
      refine WP.cut (fun L' G' Γ' => ∃ s27 : Bool, s27 = os27 ∧ L' = [(2, .int .i64 a2), (3, .pointer (some ⟨b1, 0, none⟩)), (4, .pointer (some ⟨b2, 0, none⟩)), (7, .pointer (some ⟨bR5, 0, none⟩)), (8, .pointer (some ⟨bR21, 0, none⟩)), (39, .bool s27)] ∧ G = G' ∧ [(bR21, .cells #[.int .i64 x22.f0, .int .i64 x22.f1] 81 (0, 0))] :: [(bR5, .cells #[.int .i64 x6.f0, .int .i64 x6.f1] 81 (0, 0))] :: [(b2, .cells #[.int .i64 a1.f0, .int .i64 a1.f1] 23 (0, 0))] :: [(b1, .cells #[.int .i64 a0.f0, .int .i64 a0.f1] 23 (0, 0))] :: Γ = Γ') ?_ ?_
      · clear hk28
        refine WP.region ?_
        refine WL.pure 0 7 [2, 3, 4, 7, 8, 22] (L' := [(2, .int .i64 a2), (3, .pointer (some ⟨b1, 0, none⟩)), (4, .pointer (some ⟨b2, 0, none⟩)), (7, .pointer (some ⟨bR5, 0, none⟩)), (8, .pointer (some ⟨bR21, 0, none⟩)), (22, .bool false)]) (by kernel_rfl) (by decide) ?_
        refine WL.tell (op := .load 23 (.tmp 4)) (ty := 23) (d := some 23) (g := some (6, false)) (by kernel_rfl) (by kernel_rfl) (by kernel_rfl) (Tells.load_box (i := 2) (b := b2) (o := 0) (agg := true) (by rfl) ag23 (by kernel_rfl) (fun h => by cases h) (Nat.le_of_ble_eq_true rfl) (v := .agg #[.int .i64 a1.f0, .int .i64 a1.f1]) (by kernel_rfl)) ?_
        rw [Option.bind_eq_some_iff] at h
        obtain ⟨t29, ht30, h⟩ := h
        refine WL.op (op := .call { callee := (.value (.func 18)), args := #[(.tmp 23)], argTypes := #[23] }) (ty := 4) (d := some 24) (g := some (6, false)) (by kernel_rfl) (by kernel_rfl) (by kernel_rfl) (Does.call (f := 18) (args := [.agg #[.int .i64 a1.f0, .int .i64 a1.f1]]) (by kernel_rfl) (fun W hI => (stamp_May_calls a1  t29 ht30 hI))) ?_
        rintro _ _ _ ⟨rfl, rfl, rfl⟩
        refine WL.pure 9 12 [2, 3, 4, 7, 8, 27] (L' := [(2, .int .i64 a2), (3, .pointer (some ⟨b1, 0, none⟩)), (4, .pointer (some ⟨b2, 0, none⟩)), (7, .pointer (some ⟨bR5, 0, none⟩)), (8, .pointer (some ⟨bR21, 0, none⟩)), (27, .bool (!t29))]) (by kernel_rfl) (by decide) ?_
        refine WL.split 27 (b := (!t29)) (by kernel_rfl) (fun hc => ?_) (fun hc => ?_)
        · replace hc := hc
          rw [if_pos hc] at h
          have hc33 := hc
          clear hc
          refine WL.rest 12 [2, 3, 4, 7, 8, 39] (L' := [(2, .int .i64 a2), (3, .pointer (some ⟨b1, 0, none⟩)), (4, .pointer (some ⟨b2, 0, none⟩)), (7, .pointer (some ⟨bR5, 0, none⟩)), (8, .pointer (some ⟨bR21, 0, none⟩)), (39, .bool true)]) (by kernel_rfl) ?_
          refine QP.pick [2, 3, 4, 7, 8, 39] ?_
          exact QP.meet ⟨_, Option.some.inj h, rfl, rfl, rfl⟩
        · replace hc := (Bool.eq_false_iff.1 hc)
          rw [if_neg hc] at h
          have hc33 := hc
          clear hc
          refine WL.tell (op := .load 23 (.tmp 3)) (ty := 23) (d := some 28) (g := some (11, false)) (by kernel_rfl) (by kernel_rfl) (by kernel_rfl) (Tells.load_box (i := 3) (b := b1) (o := 0) (agg := true) (by rfl) ag23 (by kernel_rfl) (fun h => by cases h) (Nat.le_of_ble_eq_true rfl) (v := .agg #[.int .i64 a0.f0, .int .i64 a0.f1]) (by kernel_rfl)) ?_
          refine WL.tell (op := .load 23 (.tmp 4)) (ty := 23) (d := some 29) (g := some (11, false)) (by kernel_rfl) (by kernel_rfl) (by kernel_rfl) (Tells.load_box (i := 2) (b := b2) (o := 0) (agg := true) (by rfl) ag23 (by kernel_rfl) (fun h => by cases h) (Nat.le_of_ble_eq_true rfl) (v := .agg #[.int .i64 a1.f0, .int .i64 a1.f1]) (by kernel_rfl)) ?_
          rw [Option.bind_eq_some_iff] at h
          obtain ⟨t34, ht35, h⟩ := h
          refine WL.op (op := .call { callee := (.value (.func 20)), args := #[(.tmp 28), (.tmp 29)], argTypes := #[23, 23] }) (ty := 4) (d := some 30) (g := some (11, false)) (by kernel_rfl) (by kernel_rfl) (by kernel_rfl) (Does.call (f := 20) (args := [.agg #[.int .i64 a0.f0, .int .i64 a0.f1], .agg #[.int .i64 a1.f0, .int .i64 a1.f1]]) (by kernel_rfl) (fun W hI => (stamp_Less_calls a0 a1  t34 ht35 hI))) ?_
          rintro _ _ _ ⟨rfl, rfl, rfl⟩
          refine WL.pure 15 17 [2, 3, 4, 7, 8, 32] (L' := [(2, .int .i64 a2), (3, .pointer (some ⟨b1, 0, none⟩)), (4, .pointer (some ⟨b2, 0, none⟩)), (7, .pointer (some ⟨bR5, 0, none⟩)), (8, .pointer (some ⟨bR21, 0, none⟩)), (32, .bool t34)]) (by kernel_rfl) (by decide) ?_
          refine WL.split 32 (b := t34) (by kernel_rfl) (fun hc => ?_) (fun hc => ?_)
          · replace hc := hc
            rw [if_pos hc] at h
            have hc38 := hc
            clear hc
            refine WL.rest 17 [2, 3, 4, 7, 8, 39] (L' := [(2, .int .i64 a2), (3, .pointer (some ⟨b1, 0, none⟩)), (4, .pointer (some ⟨b2, 0, none⟩)), (7, .pointer (some ⟨bR5, 0, none⟩)), (8, .pointer (some ⟨bR21, 0, none⟩)), (39, .bool true)]) (by kernel_rfl) ?_
            refine QP.pick [2, 3, 4, 7, 8, 39] ?_
            exact QP.meet ⟨_, Option.some.inj h, rfl, rfl, rfl⟩
          · replace hc := (Bool.eq_false_iff.1 hc)
            rw [if_neg hc] at h
            have hc38 := hc
            clear hc
            refine WL.pure 17 21 [2, 3, 4, 7, 8, 36] (L' := [(2, .int .i64 a2), (3, .pointer (some ⟨b1, 0, none⟩)), (4, .pointer (some ⟨b2, 0, none⟩)), (7, .pointer (some ⟨bR5, 0, none⟩)), (8, .pointer (some ⟨bR21, 0, none⟩)), (36, .bool (decide (a2 < 0)))]) (by kernel_rfl) (by decide) ?_
            refine WL.split 36 (b := decide (a2 < 0)) (by kernel_rfl) (fun hc => ?_) (fun hc => ?_)
            · replace hc := of_decide_eq_true hc
              rw [if_pos hc] at h
              have hc39 := hc
              clear hc
              refine WL.rest 21 [2, 3, 4, 7, 8, 39] (L' := [(2, .int .i64 a2), (3, .pointer (some ⟨b1, 0, none⟩)), (4, .pointer (some ⟨b2, 0, none⟩)), (7, .pointer (some ⟨bR5, 0, none⟩)), (8, .pointer (some ⟨bR21, 0, none⟩)), (39, .bool true)]) (by kernel_rfl) ?_
              refine QP.pick [2, 3, 4, 7, 8, 39] ?_
              exact QP.meet ⟨_, Option.some.inj h, rfl, rfl, rfl⟩
            · replace hc := of_decide_eq_false hc
              rw [if_neg hc] at h
              have hc39 := hc
              clear hc
              refine WL.rest 21 [2, 3, 4, 7, 8, 39] (L' := [(2, .int .i64 a2), (3, .pointer (some ⟨b1, 0, none⟩)), (4, .pointer (some ⟨b2, 0, none⟩)), (7, .pointer (some ⟨bR5, 0, none⟩)), (8, .pointer (some ⟨bR21, 0, none⟩)), (39, .bool (decide (a2 > 1099511627776)))]) (by kernel_rfl) ?_
              refine QP.pick [2, 3, 4, 7, 8, 39] ?_
              exact QP.meet ⟨_, Option.some.inj h, rfl, rfl, rfl⟩
      · rintro _ _ _ ⟨s27, rfl, rfl, rfl, rfl⟩
        clear h
        replace h := hk28
        refine WP.cond (b := s27) (by kernel_rfl) (fun hc => ?_) (fun hc => ?_)
        · replace hc := hc
          rw [if_pos hc] at h
          have hc40 := hc
          clear hc
          refine WP.seqR ?_
          rw [Option.bind_eq_some_iff] at h
          obtain ⟨t41, ht42, h⟩ := h
          refine WL.op (op := .call { callee := (.value (.func 17)), args := #[], argTypes := #[] }) (ty := 4) (d := some 40) (g := none) (by kernel_rfl) (by kernel_rfl) (by kernel_rfl) (Does.call (f := 17) (args := []) (by kernel_rfl) (fun W hI => (grapevinelaw2_awake_calls k   t41 ht42 hI))) ?_
          rintro _ _ _ ⟨rfl, rfl, rfl⟩
          refine WL.restQ 1 [6] (L' := [(6, .bool t41)]) (by kernel_rfl) ?_
          refine WP.dropAt 3 ?_
          refine WP.dropAt 2 ?_
          refine WP.dropAt 1 ?_
          refine WP.dropAt 0 ?_
          refine WP.ret ?_
          refine QP.thenR ?_
          obtain rfl := Option.some.inj h
          exact QP.returned [6] [.bool t41] _ (by kernel_rfl) (by kernel_rfl) (by kernel_rfl) (fun W hI => ⟨_, _, _, rfl, ⟨rfl, rfl, rfl⟩, hI⟩)
        · replace hc := (Bool.eq_false_iff.1 hc)
          rw [if_neg hc] at h
          have hc40 := hc
          clear hc
          refine WP.skip ?_
          refine QP.next ?_
          refine WP.pick [2, 3, 4, 7, 8] ?_
          refine WP.seqR ?_
          refine WL.pure 0 1 [2, 3, 4, 7, 8, 41] (L' := [(2, .int .i64 a2), (3, .pointer (some ⟨b1, 0, none⟩)), (4, .pointer (some ⟨b2, 0, none⟩)), (7, .pointer (some ⟨bR5, 0, none⟩)), (8, .pointer (some ⟨bR21, 0, none⟩)), (41, .pointer (some ⟨bR5, 0, none⟩))]) (by kernel_rfl) (by decide) ?_
          refine WL.tell (op := .load 23 (.tmp 4)) (ty := 23) (d := some 42) (g := none) (by kernel_rfl) (by kernel_rfl) (by kernel_rfl) (Tells.load_box (i := 2) (b := b2) (o := 0) (agg := true) (by rfl) ag23 (by kernel_rfl) (fun h => by cases h) (Nat.le_of_ble_eq_true rfl) (v := .agg #[.int .i64 a1.f0, .int .i64 a1.f1]) (by kernel_rfl)) ?_
          refine WL.pure 2 3 [2, 3, 4, 7, 8, 41, 42, 43] (L' := [(2, .int .i64 a2), (3, .pointer (some ⟨b1, 0, none⟩)), (4, .pointer (some ⟨b2, 0, none⟩)), (7, .pointer (some ⟨bR5, 0, none⟩)), (8, .pointer (some ⟨bR21, 0, none⟩)), (41, .pointer (some ⟨bR5, 0, none⟩)), (42, .agg #[.int .i64 a1.f0, .int .i64 a1.f1]), (43, .int .i64 a2)]) (by kernel_rfl) (by decide) ?_
          refine WL.front (i := 1) rfl ?_
          rw [Option.bind_eq_some_iff] at h
          obtain ⟨t45, ht46, h⟩ := h
          refine WL.op (op := .call { callee := (.value (.func 27)), args := #[(.tmp 41), (.tmp 42), (.tmp 43)], argTypes := #[30, 23, 3] }) (ty := 41) (d := some 44) (g := none) (by kernel_rfl) (by kernel_rfl) (by kernel_rfl) (Does.call (f := 27) (args := [.pointer (some ⟨bR5, 0, none⟩), .agg #[.int .i64 a1.f0, .int .i64 a1.f1], .int .i64 a2]) (by kernel_rfl) (fun W hI => (stamp_Clock_See_calls k x6 a1 a2 bR5 t45 ht46 hI))) ?_
          rintro _ _ _ ⟨rfl, rfl, rfl⟩
          refine WL.restQ 4 [2, 3, 4, 7, 8, 9] (L' := [(2, .int .i64 a2), (3, .pointer (some ⟨b1, 0, none⟩)), (4, .pointer (some ⟨b2, 0, none⟩)), (7, .pointer (some ⟨bR5, 0, none⟩)), (8, .pointer (some ⟨bR21, 0, none⟩)), (9, .int .i64 t45.1)]) (by kernel_rfl) ?_
          refine WP.seqR ?_
          refine WL.pure 0 2 [2, 3, 4, 7, 8, 9, 46, 47] (L' := [(2, .int .i64 a2), (3, .pointer (some ⟨b1, 0, none⟩)), (4, .pointer (some ⟨b2, 0, none⟩)), (7, .pointer (some ⟨bR5, 0, none⟩)), (8, .pointer (some ⟨bR21, 0, none⟩)), (9, .int .i64 t45.1), (46, .pointer (some ⟨bR21, 0, none⟩)), (47, .int .i64 a2)]) (by kernel_rfl) (by decide) ?_
          refine WL.front (i := 1) rfl ?_
          rw [Option.bind_eq_some_iff] at h
          obtain ⟨t49, ht50, h⟩ := h
          refine WL.op (op := .call { callee := (.value (.func 29)), args := #[(.tmp 46), (.tmp 47)], argTypes := #[30, 3] }) (ty := 44) (d := some 48) (g := none) (by kernel_rfl) (by kernel_rfl) (by kernel_rfl) (Does.call (f := 29) (args := [.pointer (some ⟨bR21, 0, none⟩), .int .i64 a2]) (by kernel_rfl) (fun W hI => (stamp_Clock_Tick_calls x22 a2 bR21 t49 ht50 hI))) ?_
          rintro _ _ _ ⟨rfl, rfl, rfl⟩
          refine WL.pure 3 6 [2, 3, 4, 7, 8, 9, 49, 50] (L' := [(2, .int .i64 a2), (3, .pointer (some ⟨b1, 0, none⟩)), (4, .pointer (some ⟨b2, 0, none⟩)), (7, .pointer (some ⟨bR5, 0, none⟩)), (8, .pointer (some ⟨bR21, 0, none⟩)), (9, .int .i64 t45.1), (49, .agg #[.int .i64 t49.1.f0, .int .i64 t49.1.f1]), (50, .int .i64 t49.2.1)]) (by kernel_rfl) (by decide) ?_
          refine WL.op (op := .alloc 23) (ty := 0) (d := some 10) (g := none) (by kernel_rfl) (by kernel_rfl) (by kernel_rfl) (Does.new (o := .cells #[.int .i64 0, .int .i64 0] 23 (0, 0)) (v := fun r => .pointer (some ⟨r, 0, none⟩)) (fun r => by kernel_rfl)) ?_
          rintro _ _ _ ⟨b53, rfl, rfl, rfl⟩
          refine WL.op (op := .store 23 (.tmp 10) (.tmp 49)) (ty := 0) (d := none) (g := none) (by kernel_rfl) (by kernel_rfl) (by kernel_rfl) (Does.store_box (i := 0) (b := b53) (o := 0) (v := .agg #[.int .i64 t49.1.f0, .int .i64 t49.1.f1]) (by rfl) sz23 (by kernel_rfl) (by kernel_rfl) (by kernel_rfl) (Free.zero _) (Nat.le_of_ble_eq_true rfl) (cells' := #[.int .i64 t49.1.f0, .int .i64 t49.1.f1]) (by kernel_rfl)) ?_
          rintro _ _ _ ⟨rfl, rfl, rfl⟩
          refine WL.restQ 8 [2, 3, 4, 7, 8, 9, 10, 11] (L' := [(2, .int .i64 a2), (3, .pointer (some ⟨b1, 0, none⟩)), (4, .pointer (some ⟨b2, 0, none⟩)), (7, .pointer (some ⟨bR5, 0, none⟩)), (8, .pointer (some ⟨bR21, 0, none⟩)), (9, .int .i64 t45.1), (10, .pointer (some ⟨b53, 0, none⟩)), (11, .int .i64 t49.2.1)]) (by kernel_rfl) ?_
          refine WP.seq ?_
          refine WP.seqP [2, 3, 4, 7, 8, 9, 10, 11, 52] (L' := [(2, .int .i64 a2), (3, .pointer (some ⟨b1, 0, none⟩)), (4, .pointer (some ⟨b2, 0, none⟩)), (7, .pointer (some ⟨bR5, 0, none⟩)), (8, .pointer (some ⟨bR21, 0, none⟩)), (9, .int .i64 t45.1), (10, .pointer (some ⟨b53, 0, none⟩)), (11, .int .i64 t49.2.1), (52, .bool (t45.1 == 5))]) (by kernel_rfl) ?_
          refine WP.cond (b := (t45.1 == 5)) (by kernel_rfl) (fun hc => ?_) (fun hc => ?_)
          · replace hc := eq_of_beq hc
            rw [if_pos hc] at h
            have hc54 := hc
            clear hc
            rw [Option.bind_eq_some_iff] at h
            obtain ⟨os55, h, hk56⟩ := h
            refine WP.cut (fun L' G' Γ' => ∃ s55 : Bool, s55 = os55 ∧ L' = [(6, .bool s55)] ∧ G = G' ∧ [(b53, .cells #[.int .i64 t49.1.f0, .int .i64 t49.1.f1] 23 (0, 0))] :: [(bR21, .cells #[.int .i64 t49.2.2.f0, .int .i64 t49.2.2.f1] 81 (0, 0))] :: [(bR5, .cells #[.int .i64 t45.2.f0, .int .i64 t45.2.f1] 81 (0, 0))] :: [(b2, .cells #[.int .i64 a1.f0, .int .i64 a1.f1] 23 (0, 0))] :: [(b1, .cells #[.int .i64 a0.f0, .int .i64 a0.f1] 23 (0, 0))] :: Γ = Γ') ?_ ?_
            · clear hk56
              skip
              refine WP.any (N := 15) (S := [⟨some 53, [4], []⟩, ⟨some 54, [53], [0]⟩, ⟨some 55, [2], []⟩, ⟨some 56, [55], [2]⟩, ⟨some 57, [54, 56], [1, 3]⟩, ⟨some 58, [57], [4]⟩, ⟨some 59, [7, 58], [5]⟩, ⟨some 60, [58, 59], [5, 6]⟩, ⟨some 61, [3, 58], [5]⟩, ⟨some 62, [58, 60, 61], [5, 7, 8]⟩, ⟨some 63, [58, 62], [5, 9]⟩, ⟨some 64, [63], [7, 10]⟩, ⟨some 65, [64], [11]⟩, ⟨some 66, [64, 65], [11, 12]⟩, ⟨some 6, [66], [0, 1, 2, 3, 4, 5, 6, 7, 8, 9, 10, 11, 12, 13]⟩]) (kw := 15) (G0 := G) (Γ0 := [(b53, .cells #[.int .i64 t49.1.f0, .int .i64 t49.1.f1] 23 (0, 0))] :: [(bR21, .cells #[.int .i64 t49.2.2.f0, .int .i64 t49.2.2.f1] 81 (0, 0))] :: [(bR5, .cells #[.int .i64 t45.2.f0, .int .i64 t45.2.f1] 81 (0, 0))] :: [(b2, .cells #[.int .i64 a1.f0, .int .i64 a1.f1] 23 (0, 0))] :: [(b1, .cells #[.int .i64 a0.f0, .int .i64 a0.f1] 23 (0, 0))] :: Γ) mo (by kernel_rfl) (fun hS => ?_)
              refine WA.pure [0, 2, 3] [3, 7, 53, 56] (m := 12) (b' := 13) (L' := [(3, .pointer (some ⟨b1, 0, none⟩)), (7, .pointer (some ⟨bR5, 0, none⟩)), (53, .pointer (some ⟨b2, 0, none⟩)), (56, .int .i64 (IntKind.i64.wrap (a2 + 1000)))]) (by kernel_rfl) (NoPanic.then (NoPanic.then (NoPanic.body))) Under.refl hS (by kernel_rfl) ?_
              refine WA.tellD [] (i := 1) (m := 11) (b' := 15) (by kernel_rfl) (NoPanic.then (NoPanic.then (NoPanic.body))) Under.refl hS (by kernel_rfl) (op := .load 3 (.tmp 53)) (ty := 3) (d := some 54) (g := none) (by kernel_rfl) (by kernel_rfl) (by kernel_rfl) (Tells.load_box (i := 3) (b := b2) (o := 0) (agg := false) (by rfl) ag3 (by kernel_rfl) (fun _ => rfl) (Nat.le_of_ble_eq_true rfl) (v := .int .i64 a1.f0) (by kernel_rfl)) ?_
              refine WA.pure [4, 5] [3, 7, 58] (m := 9) (b' := 63) (L' := [(3, .pointer (some ⟨b1, 0, none⟩)), (7, .pointer (some ⟨bR5, 0, none⟩)), (58, .bool (decide (a1.f0 > (IntKind.i64.wrap (a2 + 1000)))))]) (by kernel_rfl) (NoPanic.then (NoPanic.then (NoPanic.body))) Under.refl hS (by kernel_rfl) ?_
              refine WA.split 58 (b := decide (a1.f0 > (IntKind.i64.wrap (a2 + 1000)))) (by kernel_rfl) (fun hc => ?_) (fun hc => ?_)
              · replace hc := of_decide_eq_true hc
                rw [if_pos hc] at h
                have hc57 := hc
                clear hc
                refine WA.pure [6] [3, 58, 59] (m := 8) (b' := 127) (L' := [(3, .pointer (some ⟨b1, 0, none⟩)), (58, .bool true), (59, .pointer (some ⟨bR5, 0, none⟩))]) (by kernel_rfl) (NoPanic.then (NoPanic.then (NoPanic.body))) Under.refl hS (by kernel_rfl) ?_
                refine WA.tellD [] (i := 8) (m := 7) (b' := 383) (by kernel_rfl) (NoPanic.then (NoPanic.then (NoPanic.body))) Under.refl hS (by kernel_rfl) (op := .load 23 (.tmp 3)) (ty := 23) (d := some 61) (g := some (5, true)) (by kernel_rfl) (by kernel_rfl) (by kernel_rfl) (Tells.load_box (i := 4) (b := b1) (o := 0) (agg := true) (by rfl) ag23 (by kernel_rfl) (fun h => by cases h) (Nat.le_of_ble_eq_true rfl) (v := .agg #[.int .i64 a0.f0, .int .i64 a0.f1]) (by kernel_rfl)) ?_
                refine WA.front (i := 2) rfl ?_
                rw [Option.bind_eq_some_iff] at h
                obtain ⟨t58, ht59, h⟩ := h
                refine WA.op (i := 7) (m := 6) (b' := 511) (by kernel_rfl) hS (by kernel_rfl) (op := .call { callee := (.value (.func 25)), args := #[(.tmp 59)], argTypes := #[30] }) (ty := 23) (d := some 60) (g := some (5, true)) (by kernel_rfl) (by kernel_rfl) (by kernel_rfl) (Does.call (f := 25) (args := [.pointer (some ⟨bR5, 0, none⟩)]) (by kernel_rfl) (fun W hI => (stamp_Clock_Last_calls t45.2 bR5 t58 ht59 hI))) ?_
                rintro _ _ _ ⟨rfl, rfl, rfl⟩
                refine ⟨_, _, (Under.trans (Under.front (i := 2) rfl (Under.refl)) (Under.refl)), Under.refl, ?_⟩
                refine WA.tellD [] (i := 9) (m := 5) (b' := 1023) (by kernel_rfl) (NoPanic.then (NoPanic.then (NoPanic.body))) Under.refl hS (by kernel_rfl) (op := .binOp .eql 23 (.tmp 60) (.tmp 61) 23) (ty := 4) (d := some 62) (g := some (5, true)) (by kernel_rfl) (by kernel_rfl) (by kernel_rfl) (Tells.eqAgg (xs := #[.int .i64 t58.f0, .int .i64 t58.f1]) (ys := #[.int .i64 a0.f0, .int .i64 a0.f1]) (ls := [.int t58.f0 a0.f0, .int t58.f1 a0.f1]) (by kernel_rfl) (by kernel_rfl) (by kernel_rfl) eg23) ?_
                refine WA.reput 62 (v := .bool ([.int t58.f0 a0.f0, .int t58.f1 a0.f1].all Lf.ok)) (v' := .bool (decide (t58 = a0))) (by kernel_rfl) (by exact (congrArg Value.bool (eqT23 t58 a0))) ?_
                refine WA.pure [10, 11] [64] (m := 3) (b' := 4095) (L' := [(64, .bool (decide (t58 = a0)))]) (by kernel_rfl) (NoPanic.then (NoPanic.then (NoPanic.body))) Under.refl hS (by kernel_rfl) ?_
                refine WA.split 64 (b := decide (t58 = a0)) (by kernel_rfl) (fun hc => ?_) (fun hc => ?_)
                · replace hc := of_decide_eq_true hc
                  rw [if_pos hc] at h
                  have hc62 := hc
                  clear hc
                  rw [Option.bind_eq_some_iff] at h
                  obtain ⟨t63, ht64, h⟩ := h
                  refine WA.op (i := 12) (m := 2) (b' := 8191) (by kernel_rfl) hS (by kernel_rfl) (op := .call { callee := (.value (.func 17)), args := #[], argTypes := #[] }) (ty := 4) (d := some 65) (g := some (11, true)) (by kernel_rfl) (by kernel_rfl) (by kernel_rfl) (Does.call (f := 17) (args := []) (by kernel_rfl) (fun W hI => (grapevinelaw2_awake_calls k   t63 ht64 hI))) ?_
                  rintro _ _ _ ⟨rfl, rfl, rfl⟩
                  refine ⟨_, _, Under.refl, Under.refl, ?_⟩
                  refine WA.pure [13, 14] [6] (m := 0) (b' := 32767) (L' := [(6, .bool t63)]) (by kernel_rfl) (NoPanic.then (NoPanic.then (NoPanic.body))) Under.refl hS (by kernel_rfl) ?_
                  refine WA.done hS (by kernel_rfl) ?_
                  refine QP.pick [6] ?_
                  refine QP.front (i := 4) rfl ?_
                  refine QP.front (i := 4) rfl ?_
                  refine QP.front (i := 2) rfl ?_
                  refine QP.front (i := 4) rfl ?_
                  refine QP.front (i := 4) rfl ?_
                  refine QP.pick [6] ?_
                  exact QP.meet ⟨_, Option.some.inj h, rfl, rfl, rfl⟩
                · replace hc := of_decide_eq_false hc
                  rw [if_neg hc] at h
                  have hc62 := hc
                  clear hc
                  refine WA.pure [12, 13, 14] [6] (m := 0) (b' := 32767) (L' := [(6, .bool false)]) (by kernel_rfl) (NoPanic.then (NoPanic.then (NoPanic.body))) Under.refl hS (by kernel_rfl) ?_
                  refine WA.done hS (by kernel_rfl) ?_
                  refine QP.pick [6] ?_
                  refine QP.front (i := 4) rfl ?_
                  refine QP.front (i := 4) rfl ?_
                  refine QP.front (i := 2) rfl ?_
                  refine QP.front (i := 4) rfl ?_
                  refine QP.front (i := 4) rfl ?_
                  refine QP.pick [6] ?_
                  exact QP.meet ⟨_, Option.some.inj h, rfl, rfl, rfl⟩
              · replace hc := of_decide_eq_false hc
                rw [if_neg hc] at h
                have hc57 := hc
                clear hc
                refine WA.pure [6, 7, 8, 9, 10, 11, 12, 13, 14] [6] (m := 0) (b' := 32767) (L' := [(6, .bool false)]) (by kernel_rfl) (NoPanic.then (NoPanic.then (NoPanic.body))) Under.refl hS (by kernel_rfl) ?_
                refine WA.done hS (by kernel_rfl) ?_
                refine QP.pick [6] ?_
                refine QP.pick [6] ?_
                exact QP.meet ⟨_, Option.some.inj h, rfl, rfl, rfl⟩
            · rintro _ _ _ ⟨s55, rfl, rfl, rfl, rfl⟩
              clear h
              replace h := hk56
              refine WP.ret ?_
              refine QP.thenR ?_
              obtain rfl := Option.some.inj h
              refine QP.dropAt 4 ?_
              refine QP.dropAt 3 ?_
              refine QP.dropAt 2 ?_
              refine QP.dropAt 1 ?_
              refine QP.dropAt 0 ?_
              exact QP.returned [6] [.bool s55] _ (by kernel_rfl) (by kernel_rfl) (by kernel_rfl) (fun W hI => ⟨_, _, _, rfl, ⟨rfl, rfl, rfl⟩, hI⟩)
          · replace hc := ne_of_beq_false hc
            rw [if_neg hc] at h
            have hc54 := hc
            clear hc
            refine WP.skip ?_
            refine QP.next ?_
            refine WP.pick [7, 8, 9, 10, 11] ?_
            rw [Option.bind_eq_some_iff] at h
            obtain ⟨os67, h, hk68⟩ := h
            refine WP.cut (fun L' G' Γ' => ∃ s67 : Bool, s67 = os67 ∧ L' = [(6, .bool s67)] ∧ G = G' ∧ [(b53, .cells #[.int .i64 t49.1.f0, .int .i64 t49.1.f1] 23 (0, 0))] :: [(bR21, .cells #[.int .i64 t49.2.2.f0, .int .i64 t49.2.2.f1] 81 (0, 0))] :: [(bR5, .cells #[.int .i64 t45.2.f0, .int .i64 t45.2.f1] 81 (0, 0))] :: [(b2, .cells #[.int .i64 a1.f0, .int .i64 a1.f1] 23 (0, 0))] :: [(b1, .cells #[.int .i64 a0.f0, .int .i64 a0.f1] 23 (0, 0))] :: Γ = Γ') ?_ ?_
            · clear hk68
              skip
              refine WP.any (N := 24) (S := [⟨some 67, [9], []⟩, ⟨some 68, [11], []⟩, ⟨some 69, [67, 68], [0, 1]⟩, ⟨some 70, [69], [2]⟩, ⟨some 71, [7, 70], [3]⟩, ⟨some 72, [70, 71], [3, 4]⟩, ⟨some 73, [8, 70], [3]⟩, ⟨some 74, [70, 73], [3, 5, 6]⟩, ⟨some 75, [70, 72, 74], [3, 5, 7]⟩, ⟨some 76, [70, 75], [3, 8]⟩, ⟨some 77, [76], [7, 9]⟩, ⟨some 78, [11, 77], [10]⟩, ⟨some 79, [77, 78], [10, 11]⟩, ⟨some 80, [77, 79], [10, 12]⟩, ⟨some 81, [10, 80], [13]⟩, ⟨some 82, [7, 80], [13]⟩, ⟨some 83, [80, 82], [13, 15]⟩, ⟨some 84, [80, 81, 83], [13, 14, 16]⟩, ⟨some 85, [77, 80, 84], [10, 13, 17]⟩, ⟨some 86, [77, 85], [10, 18]⟩, ⟨some 87, [86], [16, 19]⟩, ⟨some 88, [87], [20]⟩, ⟨some 89, [87, 88], [20, 21]⟩, ⟨some 6, [89], [0, 1, 2, 3, 4, 5, 6, 7, 8, 9, 10, 11, 12, 13, 14, 15, 16, 17, 18, 19, 20, 21, 22]⟩]) (kw := 24) (G0 := G) (Γ0 := [(b53, .cells #[.int .i64 t49.1.f0, .int .i64 t49.1.f1] 23 (0, 0))] :: [(bR21, .cells #[.int .i64 t49.2.2.f0, .int .i64 t49.2.2.f1] 81 (0, 0))] :: [(bR5, .cells #[.int .i64 t45.2.f0, .int .i64 t45.2.f1] 81 (0, 0))] :: [(b2, .cells #[.int .i64 a1.f0, .int .i64 a1.f1] 23 (0, 0))] :: [(b1, .cells #[.int .i64 a0.f0, .int .i64 a0.f1] 23 (0, 0))] :: Γ) mo (by kernel_rfl) (fun hS => ?_)
              refine WA.pure [0, 1, 2, 3] [7, 8, 10, 11, 70] (m := 20) (b' := 15) (L' := [(7, .pointer (some ⟨bR5, 0, none⟩)), (8, .pointer (some ⟨bR21, 0, none⟩)), (10, .pointer (some ⟨b53, 0, none⟩)), (11, .int .i64 t49.2.1), (70, .bool (t45.1 == t49.2.1))]) (by kernel_rfl) (NoPanic.then (NoPanic.body)) Under.refl hS (by kernel_rfl) ?_
              refine WA.split 70 (b := (t45.1 == t49.2.1)) (by kernel_rfl) (fun hc => ?_) (fun hc => ?_)
              · replace hc := eq_of_beq hc
                rw [if_pos hc] at h
                have hc69 := hc
                clear hc
                refine WA.pure [4, 6] [7, 10, 11, 70, 71, 73] (m := 18) (b' := 95) (L' := [(7, .pointer (some ⟨bR5, 0, none⟩)), (10, .pointer (some ⟨b53, 0, none⟩)), (11, .int .i64 t49.2.1), (70, .bool true), (71, .pointer (some ⟨bR5, 0, none⟩)), (73, .pointer (some ⟨bR21, 0, none⟩))]) (by kernel_rfl) (NoPanic.then (NoPanic.body)) Under.refl hS (by kernel_rfl) ?_
                refine WA.front (i := 2) rfl ?_
                rw [Option.bind_eq_some_iff] at h
                obtain ⟨t70, ht71, h⟩ := h
                refine WA.op (i := 5) (m := 17) (b' := 127) (by kernel_rfl) hS (by kernel_rfl) (op := .call { callee := (.value (.func 25)), args := #[(.tmp 71)], argTypes := #[30] }) (ty := 23) (d := some 72) (g := some (3, true)) (by kernel_rfl) (by kernel_rfl) (by kernel_rfl) (Does.call (f := 25) (args := [.pointer (some ⟨bR5, 0, none⟩)]) (by kernel_rfl) (fun W hI => (stamp_Clock_Last_calls t45.2 bR5 t70 ht71 hI))) ?_
                rintro _ _ _ ⟨rfl, rfl, rfl⟩
                refine ⟨_, _, (Under.trans (Under.front (i := 2) rfl (Under.refl)) (Under.refl)), Under.refl, ?_⟩
                refine WA.front (i := 2) rfl ?_
                rw [Option.bind_eq_some_iff] at h
                obtain ⟨t74, ht75, h⟩ := h
                refine WA.op (i := 7) (m := 16) (b' := 255) (by kernel_rfl) hS (by kernel_rfl) (op := .call { callee := (.value (.func 25)), args := #[(.tmp 73)], argTypes := #[30] }) (ty := 23) (d := some 74) (g := some (3, true)) (by kernel_rfl) (by kernel_rfl) (by kernel_rfl) (Does.call (f := 25) (args := [.pointer (some ⟨bR21, 0, none⟩)]) (by kernel_rfl) (fun W hI => (stamp_Clock_Last_calls t49.2.2 bR21 t74 ht75 hI))) ?_
                rintro _ _ _ ⟨rfl, rfl, rfl⟩
                refine ⟨_, _, (Under.trans (Under.front (i := 2) rfl (Under.refl)) (Under.refl)), Under.refl, ?_⟩
                refine WA.tellD [] (i := 8) (m := 15) (b' := 511) (by kernel_rfl) (NoPanic.then (NoPanic.body)) Under.refl hS (by kernel_rfl) (op := .binOp .eql 23 (.tmp 72) (.tmp 74) 23) (ty := 4) (d := some 75) (g := some (3, true)) (by kernel_rfl) (by kernel_rfl) (by kernel_rfl) (Tells.eqAgg (xs := #[.int .i64 t70.f0, .int .i64 t70.f1]) (ys := #[.int .i64 t74.f0, .int .i64 t74.f1]) (ls := [.int t70.f0 t74.f0, .int t70.f1 t74.f1]) (by kernel_rfl) (by kernel_rfl) (by kernel_rfl) eg23) ?_
                refine WA.reput 75 (v := .bool ([.int t70.f0 t74.f0, .int t70.f1 t74.f1].all Lf.ok)) (v' := .bool (decide (t70 = t74))) (by kernel_rfl) (by exact (congrArg Value.bool (eqT23 t70 t74))) ?_
                refine WA.pure [9, 10] [7, 10, 11, 77] (m := 13) (b' := 2047) (L' := [(7, .pointer (some ⟨bR5, 0, none⟩)), (10, .pointer (some ⟨b53, 0, none⟩)), (11, .int .i64 t49.2.1), (77, .bool (decide (t70 = t74)))]) (by kernel_rfl) (NoPanic.then (NoPanic.body)) Under.refl hS (by kernel_rfl) ?_
                refine WA.split 77 (b := decide (t70 = t74)) (by kernel_rfl) (fun hc => ?_) (fun hc => ?_)
                · replace hc := of_decide_eq_true hc
                  rw [if_pos hc] at h
                  have hc78 := hc
                  clear hc
                  refine WA.pure [11, 12, 13] [7, 10, 77, 80] (m := 10) (b' := 16383) (L' := [(7, .pointer (some ⟨bR5, 0, none⟩)), (10, .pointer (some ⟨b53, 0, none⟩)), (77, .bool true), (80, .bool (t49.2.1 != 0))]) (by kernel_rfl) (NoPanic.then (NoPanic.body)) Under.refl hS (by kernel_rfl) ?_
                  refine WA.split 80 (b := (t49.2.1 != 0)) (by kernel_rfl) (fun hc => ?_) (fun hc => ?_)
                  · replace hc := (bne_iff_ne.1 hc)
                    rw [if_pos hc] at h
                    have hc79 := hc
                    clear hc
                    refine WA.pure [14, 15, 16, 17, 18, 19, 20] [87] (m := 3) (b' := 2097151) (L' := [(87, .bool true)]) (by kernel_rfl) (NoPanic.then (NoPanic.body)) Under.refl hS (by kernel_rfl) ?_
                    rw [Option.bind_eq_some_iff] at h
                    obtain ⟨t80, ht81, h⟩ := h
                    refine WA.op (i := 21) (m := 2) (b' := 4194303) (by kernel_rfl) hS (by kernel_rfl) (op := .call { callee := (.value (.func 17)), args := #[], argTypes := #[] }) (ty := 4) (d := some 88) (g := some (20, true)) (by kernel_rfl) (by kernel_rfl) (by kernel_rfl) (Does.call (f := 17) (args := []) (by kernel_rfl) (fun W hI => (grapevinelaw2_awake_calls k   t80 ht81 hI))) ?_
                    rintro _ _ _ ⟨rfl, rfl, rfl⟩
                    refine ⟨_, _, Under.refl, Under.refl, ?_⟩
                    refine WA.pure [22, 23] [6] (m := 0) (b' := 16777215) (L' := [(6, .bool t80)]) (by kernel_rfl) (NoPanic.then (NoPanic.body)) Under.refl hS (by kernel_rfl) ?_
                    refine WA.done hS (by kernel_rfl) ?_
                    refine QP.pick [6] ?_
                    refine QP.front (i := 4) rfl ?_
                    refine QP.front (i := 4) rfl ?_
                    refine QP.front (i := 3) rfl ?_
                    refine QP.front (i := 3) rfl ?_
                    refine QP.front (i := 4) rfl ?_
                    refine QP.pick [6] ?_
                    exact QP.meet ⟨_, Option.some.inj h, rfl, rfl, rfl⟩
                  · replace hc := (not_not_intro (bne_eq_false_iff_eq.1 hc))
                    rw [if_neg hc] at h
                    have hc79 := hc
                    clear hc
                    refine WA.pure [15] [10, 77, 80, 82] (m := 9) (b' := 49151) (L' := [(10, .pointer (some ⟨b53, 0, none⟩)), (77, .bool true), (80, .bool false), (82, .pointer (some ⟨bR5, 0, none⟩))]) (by kernel_rfl) (NoPanic.then (NoPanic.body)) Under.refl hS (by kernel_rfl) ?_
                    refine WA.tellD [] (i := 14) (m := 8) (b' := 65535) (by kernel_rfl) (NoPanic.then (NoPanic.body)) Under.refl hS (by kernel_rfl) (op := .load 23 (.tmp 10)) (ty := 23) (d := some 81) (g := some (13, false)) (by kernel_rfl) (by kernel_rfl) (by kernel_rfl) (Tells.load_box (i := 2) (b := b53) (o := 0) (agg := true) (by rfl) ag23 (by kernel_rfl) (fun h => by cases h) (Nat.le_of_ble_eq_true rfl) (v := .agg #[.int .i64 t49.1.f0, .int .i64 t49.1.f1]) (by kernel_rfl)) ?_
                    refine WA.front (i := 1) rfl ?_
                    rw [Option.bind_eq_some_iff] at h
                    obtain ⟨t84, ht85, h⟩ := h
                    refine WA.op (i := 16) (m := 7) (b' := 131071) (by kernel_rfl) hS (by kernel_rfl) (op := .call { callee := (.value (.func 25)), args := #[(.tmp 82)], argTypes := #[30] }) (ty := 23) (d := some 83) (g := some (13, false)) (by kernel_rfl) (by kernel_rfl) (by kernel_rfl) (Does.call (f := 25) (args := [.pointer (some ⟨bR5, 0, none⟩)]) (by kernel_rfl) (fun W hI => (stamp_Clock_Last_calls t45.2 bR5 t84 ht85 hI))) ?_
                    rintro _ _ _ ⟨rfl, rfl, rfl⟩
                    refine ⟨_, _, (Under.trans (Under.front (i := 1) rfl (Under.refl)) (Under.refl)), Under.refl, ?_⟩
                    refine WA.tellD [] (i := 17) (m := 6) (b' := 262143) (by kernel_rfl) (NoPanic.then (NoPanic.body)) Under.refl hS (by kernel_rfl) (op := .binOp .eql 23 (.tmp 81) (.tmp 83) 23) (ty := 4) (d := some 84) (g := some (13, false)) (by kernel_rfl) (by kernel_rfl) (by kernel_rfl) (Tells.eqAgg (xs := #[.int .i64 t49.1.f0, .int .i64 t49.1.f1]) (ys := #[.int .i64 t84.f0, .int .i64 t84.f1]) (ls := [.int t49.1.f0 t84.f0, .int t49.1.f1 t84.f1]) (by kernel_rfl) (by kernel_rfl) (by kernel_rfl) eg23) ?_
                    refine WA.reput 84 (v := .bool ([.int t49.1.f0 t84.f0, .int t49.1.f1 t84.f1].all Lf.ok)) (v' := .bool (decide (t49.1 = t84))) (by kernel_rfl) (by exact (congrArg Value.bool (eqT23 t49.1 t84))) ?_
                    refine WA.pure [18, 19, 20] [87] (m := 3) (b' := 2097151) (L' := [(87, .bool (decide (t49.1 = t84)))]) (by kernel_rfl) (NoPanic.then (NoPanic.body)) Under.refl hS (by kernel_rfl) ?_
                    refine WA.split 87 (b := decide (t49.1 = t84)) (by kernel_rfl) (fun hc => ?_) (fun hc => ?_)
                    · replace hc := of_decide_eq_true hc
                      rw [if_pos hc] at h
                      have hc88 := hc
                      clear hc
                      rw [Option.bind_eq_some_iff] at h
                      obtain ⟨t89, ht90, h⟩ := h
                      refine WA.op (i := 21) (m := 2) (b' := 4194303) (by kernel_rfl) hS (by kernel_rfl) (op := .call { callee := (.value (.func 17)), args := #[], argTypes := #[] }) (ty := 4) (d := some 88) (g := some (20, true)) (by kernel_rfl) (by kernel_rfl) (by kernel_rfl) (Does.call (f := 17) (args := []) (by kernel_rfl) (fun W hI => (grapevinelaw2_awake_calls k   t89 ht90 hI))) ?_
                      rintro _ _ _ ⟨rfl, rfl, rfl⟩
                      refine ⟨_, _, Under.refl, Under.refl, ?_⟩
                      refine WA.pure [22, 23] [6] (m := 0) (b' := 16777215) (L' := [(6, .bool t89)]) (by kernel_rfl) (NoPanic.then (NoPanic.body)) Under.refl hS (by kernel_rfl) ?_
                      refine WA.done hS (by kernel_rfl) ?_
                      refine QP.pick [6] ?_
                      refine QP.front (i := 4) rfl ?_
                      refine QP.front (i := 4) rfl ?_
                      refine QP.front (i := 2) rfl ?_
                      refine QP.front (i := 3) rfl ?_
                      refine QP.front (i := 4) rfl ?_
                      refine QP.pick [6] ?_
                      exact QP.meet ⟨_, Option.some.inj h, rfl, rfl, rfl⟩
                    · replace hc := of_decide_eq_false hc
                      rw [if_neg hc] at h
                      have hc88 := hc
                      clear hc
                      refine WA.pure [21, 22, 23] [6] (m := 0) (b' := 16777215) (L' := [(6, .bool false)]) (by kernel_rfl) (NoPanic.then (NoPanic.body)) Under.refl hS (by kernel_rfl) ?_
                      refine WA.done hS (by kernel_rfl) ?_
                      refine QP.pick [6] ?_
                      refine QP.front (i := 4) rfl ?_
                      refine QP.front (i := 4) rfl ?_
                      refine QP.front (i := 2) rfl ?_
                      refine QP.front (i := 3) rfl ?_
                      refine QP.front (i := 4) rfl ?_
                      refine QP.pick [6] ?_
                      exact QP.meet ⟨_, Option.some.inj h, rfl, rfl, rfl⟩
                · replace hc := of_decide_eq_false hc
                  rw [if_neg hc] at h
                  have hc78 := hc
                  clear hc
                  refine WA.pure [11, 12, 13, 14, 15, 16, 17, 18, 19, 20, 21, 22, 23] [6] (m := 0) (b' := 16777215) (L' := [(6, .bool false)]) (by kernel_rfl) (NoPanic.then (NoPanic.body)) Under.refl hS (by kernel_rfl) ?_
                  refine WA.done hS (by kernel_rfl) ?_
                  refine QP.pick [6] ?_
                  refine QP.front (i := 4) rfl ?_
                  refine QP.front (i := 4) rfl ?_
                  refine QP.front (i := 3) rfl ?_
                  refine QP.front (i := 3) rfl ?_
                  refine QP.front (i := 4) rfl ?_
                  refine QP.pick [6] ?_
                  exact QP.meet ⟨_, Option.some.inj h, rfl, rfl, rfl⟩
              · replace hc := ne_of_beq_false hc
                rw [if_neg hc] at h
                have hc69 := hc
                clear hc
                refine WA.pure [4, 5, 6, 7, 8, 9, 10, 11, 12, 13, 14, 15, 16, 17, 18, 19, 20, 21, 22, 23] [6] (m := 0) (b' := 16777215) (L' := [(6, .bool false)]) (by kernel_rfl) (NoPanic.then (NoPanic.body)) Under.refl hS (by kernel_rfl) ?_
                refine WA.done hS (by kernel_rfl) ?_
                refine QP.pick [6] ?_
                refine QP.pick [6] ?_
                exact QP.meet ⟨_, Option.some.inj h, rfl, rfl, rfl⟩
            · rintro _ _ _ ⟨s67, rfl, rfl, rfl, rfl⟩
              clear h
              replace h := hk68
              refine WP.ret ?_
              obtain rfl := Option.some.inj h
              refine QP.dropAt 4 ?_
              refine QP.dropAt 3 ?_
              refine QP.dropAt 2 ?_
              refine QP.dropAt 1 ?_
              refine QP.dropAt 0 ?_
              exact QP.returned [6] [.bool s67] _ (by kernel_rfl) (by kernel_rfl) (by kernel_rfl) (fun W hI => ⟨_, _, _, rfl, ⟨rfl, rfl, rfl⟩, hI⟩)
/-- The plain law. -/
def StampOld_Pure : Prop := ∀ (a0 : T23) (a1 : T23) (a2 : Int), ((Lit.int .i64 a0.f0).wf = true ∧ (Lit.int .i64 a0.f1).wf = true) → ((Lit.int .i64 a1.f0).wf = true ∧ (Lit.int .i64 a1.f1).wf = true) → (Lit.int .i64 a2).wf = true → ∃ k, grapevinelaw2_StampOld k a0 a1 a2 = some true
end Go.Proofs.Ytmphcmgbognmnaa.Gf
