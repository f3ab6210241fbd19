/- Walks of Go functions: what each tells, as a plain Lean function, and that the Go code comes to it. Written by gg.py of this repo. -/
import Derived.Test.YtmphcmgbognmnaaT
import Derived.Test.YtmphcmgbognmnaaF0
namespace Go.Proofs.Ytmphcmgbognmnaa.Gf
open Go Go.Gg
set_option maxRecDepth 100000
set_option linter.unusedVariables false
set_option linter.unusedSimpArgs false

/-! ### grapevine/grapevinelaw2.StampScript: function 4 -/
def grapevinelaw2_StampScript_l0 (l1 : List T39) : Nat → Int → T81 → T36 → Option (Sum Bool (T81 × T36))
  | 0, _, _, _ => none
  | k + 1, y26, y27, y28 => (if y26 < (l1.length : Int) then (if 0 ≤ y26 ∧ y26 < (l1.length : Int) then (if (l1.getD y26.toNat z39).f0 = true then ((stamp_Clock_See k y27 (⟨(l1.getD y26.toNat z39).f1, (l1.getD y26.toNat z39).f2⟩ : T23) ((l1.getD y26.toNat z39).f3)).bind fun t35 => ((grapevinelaw0_Num t35.1).bind fun t39 => ((grapevineref2_Clock_See y28 (⟨(l1.getD y26.toNat z39).f1, (l1.getD y26.toNat z39).f2⟩ : T23) ((l1.getD y26.toNat z39).f3)).bind fun t43 => (if ¬ t39 = t43.1 then some (Sum.inl false) else ((stamp_Clock_Last t35.2).bind fun t48 => (if ¬ t48 = (⟨t43.2.f0, t43.2.f1⟩ : T23) then some (Sum.inl false) else grapevinelaw2_StampScript_l0 l1 k (IntKind.i64.wrap (y26 + 1)) t35.2 t43.2)))))) else ((stamp_Clock_Tick y27 ((l1.getD y26.toNat z39).f3)).bind fun t53 => ((grapevineref2_Clock_Tick y28 ((l1.getD y26.toNat z39).f3)).bind fun t58 => ((if ¬ t53.1 = t58.1 then some true else ((grapevinelaw0_Num t53.2.1).bind fun t66 => some (t66 != t58.2.1))).bind fun s63 => (if s63 = true then some (Sum.inl false) else ((stamp_Clock_Last t53.2.2).bind fun t71 => (if ¬ t71 = (⟨t58.2.2.f0, t58.2.2.f1⟩ : T23) then some (Sum.inl false) else grapevinelaw2_StampScript_l0 l1 k (IntKind.i64.wrap (y26 + 1)) t53.2.2 t58.2.2))))))) else none) else some (Sum.inr (y27, y28)))
def grapevinelaw2_StampScript (k : Nat) (a0 : T23) (l1 : List T39) : Option Bool := ((if (l1.length : Int) > 60 then some true else ((grapevineref2_May a0).bind fun t5 => some (!t5))).bind fun s2 => (if s2 = true then ((grapevinelaw2_awake k ).bind fun t10 => some t10) else ((stamp_New a0).bind fun t14 => Option.elim t14 (some false) (fun x17 => ((stamp_Clock_Last x17).bind fun t20 => (if ¬ t20 = a0 then some false else ((grapevinelaw2_StampScript_l0 l1 k 0 x17 (⟨a0.f0, a0.f1⟩ : T36)).bind fun os25 => match os25 with | Sum.inl r => some r | Sum.inr s25 => ((grapevinelaw2_awake k ).bind fun t77 => some t77))))))))
set_option maxHeartbeats 4000000 in
theorem grapevinelaw2_StampScript_calls {B : World} {G : GMap} {Γ : List Chunk} {W : World} (k : Nat) (a0 : T23) (l1 : List T39) (Al1 : Option Addr) (cl1 : Nat) (Hl1 : Rd k39 G Al1 cl1 l1) (r : Bool) (h : grapevinelaw2_StampScript k a0 l1 = some r) (hI : Inv B G (Γ) W) :
    Calls Try.prog 4 [.agg #[.int .i64 a0.f0, .int .i64 a0.f1], .slice Al1 l1.length cl1].toArray W (Ret B (fun v G' Γ' => v = .bool r ∧ G = G' ∧ Γ = Γ')) := by
  refine calls_WP (Γ := Γ) (G := G) (B := B) Try.func4 rfl (by kernel_rfl) ?_ hI
  clear hI
  unfold grapevinelaw2_StampScript at h
  refine WP.seqR ?_
  refine WL.op (op := .box 23 (.tmp 0)) (ty := 0) (d := some 2) (g := none) (by kernel_rfl) (by kernel_rfl) (by kernel_rfl) (Does.new (o := .cells #[.int .i64 a0.f0, .int .i64 a0.f1] 23 (0, 0)) (v := fun r => .pointer (some ⟨r, 0, none⟩)) (fun r => by kernel_rfl)) ?_
  rintro _ _ _ ⟨b1, rfl, rfl, rfl⟩
  refine WL.restQ 1 [1, 2] (L' := [(1, .slice Al1 l1.length cl1), (2, .pointer (some ⟨b1, 0, none⟩))]) (by kernel_rfl) ?_
  refine WP.seq ?_
  rw [Option.bind_eq_some_iff] at h
  obtain ⟨os2, h, hk3⟩ := h
  refine WP.cut (fun L' G' Γ' => ∃ s2 : Bool, s2 = os2 ∧ L' = [(1, .slice Al1 l1.length cl1), (2, .pointer (some ⟨b1, 0, none⟩)), (20, .bool s2)] ∧ G = G' ∧ [(b1, .cells #[.int .i64 a0.f0, .int .i64 a0.f1] 23 (0, 0))] :: Γ = Γ') ?_ ?_
  · clear hk3
    refine WP.region ?_
    refine WL.pure 0 4 [1, 2, 16] (L' := [(1, .slice Al1 l1.length cl1), (2, .pointer (some ⟨b1, 0, none⟩)), (16, .bool (decide ((l1.length : Int) > 60)))]) (by kernel_rfl) (by decide) ?_
    refine WL.split 16 (b := decide ((l1.length : Int) > 60)) (by kernel_rfl) (fun hc => ?_) (fun hc => ?_)
    · replace hc := of_decide_eq_true hc
      rw [if_pos hc] at h
      have hc4 := hc
      clear hc
      refine WL.rest 4 [1, 2, 20] (L' := [(1, .slice Al1 l1.length cl1), (2, .pointer (some ⟨b1, 0, none⟩)), (20, .bool true)]) (by kernel_rfl) ?_
      refine QP.pick [1, 2, 20] ?_
      exact QP.meet ⟨_, Option.some.inj h, rfl, rfl, rfl⟩
    · replace hc := of_decide_eq_false hc
      rw [if_neg hc] at h
      have hc4 := hc
      clear hc
      refine WL.tell (op := .load 23 (.tmp 2)) (ty := 23) (d := some 17) (g := some (3, false)) (by kernel_rfl) (by kernel_rfl) (by kernel_rfl) (Tells.load_box (i := 0) (b := b1) (o := 0) (agg := true) (by rfl) ag23 (by kernel_rfl) (fun h => by cases h) (Nat.le_of_ble_eq_true rfl) (v := .agg #[.int .i64 a0.f0, .int .i64 a0.f1]) (by kernel_rfl)) ?_
      rw [Option.bind_eq_some_iff] at h
      obtain ⟨t5, ht6, h⟩ := h
      refine WL.op (op := .call { callee := (.value (.func 19)), args := #[(.tmp 17)], argTypes := #[23] }) (ty := 4) (d := some 18) (g := some (3, false)) (by kernel_rfl) (by kernel_rfl) (by kernel_rfl) (Does.call (f := 19) (args := [.agg #[.int .i64 a0.f0, .int .i64 a0.f1]]) (by kernel_rfl) (fun W hI => (grapevineref2_May_calls a0  t5 ht6 hI))) ?_
      rintro _ _ _ ⟨rfl, rfl, rfl⟩
      refine WL.rest 6 [1, 2, 20] (L' := [(1, .slice Al1 l1.length cl1), (2, .pointer (some ⟨b1, 0, none⟩)), (20, .bool (!t5))]) (by kernel_rfl) ?_
      refine QP.pick [1, 2, 20] ?_
      exact QP.meet ⟨_, Option.some.inj h, rfl, rfl, rfl⟩
  · rintro _ _ _ ⟨s2, rfl, rfl, rfl, rfl⟩
    clear h
    replace h := hk3
    refine WP.cond (b := s2) (by kernel_rfl) (fun hc => ?_) (fun hc => ?_)
    · replace hc := hc
      rw [if_pos hc] at h
      have hc9 := hc
      clear hc
      refine WP.seqR ?_
      rw [Option.bind_eq_some_iff] at h
      obtain ⟨t10, ht11, h⟩ := h
      refine WL.op (op := .call { callee := (.value (.func 17)), args := #[], argTypes := #[] }) (ty := 4) (d := some 21) (g := none) (by kernel_rfl) (by kernel_rfl) (by kernel_rfl) (Does.call (f := 17) (args := []) (by kernel_rfl) (fun W hI => (grapevinelaw2_awake_calls k   t10 ht11 hI))) ?_
      rintro _ _ _ ⟨rfl, rfl, rfl⟩
      refine WL.restQ 1 [4] (L' := [(4, .bool t10)]) (by kernel_rfl) ?_
      refine WP.dropAt 0 ?_
      refine WP.ret ?_
      refine QP.thenR ?_
      obtain rfl := Option.some.inj h
      exact QP.returned [4] [.bool t10] _ (by kernel_rfl) (by kernel_rfl) (by kernel_rfl) (fun W hI => ⟨_, _, _, rfl, ⟨rfl, rfl, rfl⟩, hI⟩)
    · replace hc := (Bool.eq_false_iff.1 hc)
      rw [if_neg hc] at h
      have hc9 := hc
      clear hc
      refine WP.skip ?_
      refine QP.next ?_
      refine WP.pick [1, 2] ?_
      refine WP.seq ?_
      refine WP.any (N := 7) (S := [⟨some 22, [2], []⟩, ⟨some 23, [22], [0]⟩, ⟨some 24, [2], []⟩, ⟨some 25, [24], [2]⟩, ⟨some 26, [25], [3]⟩, ⟨some 5, [23], [0, 1]⟩, ⟨some 6, [26], [0, 1, 2, 3, 4, 5]⟩]) (kw := 7) (G0 := G) (Γ0 := [(b1, .cells #[.int .i64 a0.f0, .int .i64 a0.f1] 23 (0, 0))] :: Γ) mo (by kernel_rfl) (fun hS => ?_)
      refine WA.tellD [] (i := 0) (m := 6) (b' := 1) (by kernel_rfl) (NoPanic.then (NoPanic.body)) Under.refl hS (by kernel_rfl) (op := .load 23 (.tmp 2)) (ty := 23) (d := some 22) (g := none) (by kernel_rfl) (by kernel_rfl) (by kernel_rfl) (Tells.load_box (i := 0) (b := b1) (o := 0) (agg := true) (by rfl) ag23 (by kernel_rfl) (fun h => by cases h) (Nat.le_of_ble_eq_true rfl) (v := .agg #[.int .i64 a0.f0, .int .i64 a0.f1]) (by kernel_rfl)) ?_
      refine WA.tellD [] (i := 2) (m := 5) (b' := 5) (by kernel_rfl) (NoPanic.then (NoPanic.body)) Under.refl hS (by kernel_rfl) (op := .load 23 (.tmp 2)) (ty := 23) (d := some 24) (g := none) (by kernel_rfl) (by kernel_rfl) (by kernel_rfl) (Tells.load_box (i := 0) (b := b1) (o := 0) (agg := true) (by rfl) ag23 (by kernel_rfl) (fun h => by cases h) (Nat.le_of_ble_eq_true rfl) (v := .agg #[.int .i64 a0.f0, .int .i64 a0.f1]) (by kernel_rfl)) ?_
      refine WA.pure [3] [1, 2, 22, 25] (m := 4) (b' := 13) (L' := [(1, .slice Al1 l1.length cl1), (2, .pointer (some ⟨b1, 0, none⟩)), (22, .agg #[.int .i64 a0.f0, .int .i64 a0.f1]), (25, .agg #[.int .i64 a0.f0, .int .i64 a0.f1])]) (by kernel_rfl) (NoPanic.then (NoPanic.body)) Under.refl hS (by kernel_rfl) ?_
      refine WA.two (i := 1) (j := 4) (m := 3) (by kernel_rfl) hS (by kernel_rfl) ?_ ?_
      · rw [Option.bind_eq_some_iff] at h
        obtain ⟨t14, ht15, h⟩ := h
        refine WO.op (b' := 15) (by kernel_rfl) (op := .call { callee := (.value (.func 24)), args := #[(.tmp 22)], argTypes := #[23] }) (ty := 30) (d := some 23) (g := none) (by kernel_rfl) (by kernel_rfl) (by kernel_rfl) (Does.call (f := 24) (args := [.agg #[.int .i64 a0.f0, .int .i64 a0.f1]]) (by kernel_rfl) (fun W hI => (stamp_New_calls a0  t14 ht15 hI))) ?_
        rintro _ _ _ (⟨hx, rfl, rfl, rfl⟩ | ⟨x17, hx, bR16, rfl, rfl, rfl⟩)
        · rw [hx] at h
          rw [Option.elim_none] at h
          clear hx
          refine ⟨_, _, Under.refl, Under.refl, ?_⟩
          refine WA.pure [5] [1, 2, 5, 25] (m := 2) (b' := 47) (L' := [(1, .slice Al1 l1.length cl1), (2, .pointer (some ⟨b1, 0, none⟩)), (5, .pointer none), (25, .agg #[.int .i64 a0.f0, .int .i64 a0.f1])]) (by kernel_rfl) (NoPanic.then (NoPanic.body)) Under.refl hS (by kernel_rfl) ?_
          refine WA.op (i := 4) (m := 1) (b' := 63) (by kernel_rfl) hS (by kernel_rfl) (op := .box 36 (.tmp 25)) (ty := 34) (d := some 26) (g := none) (by kernel_rfl) (by kernel_rfl) (by kernel_rfl) (Does.new (o := .cells #[.int .i64 a0.f0, .int .i64 a0.f1] 36 (0, 0)) (v := fun r => .pointer (some ⟨r, 0, none⟩)) (fun r => by kernel_rfl)) ?_
          rintro _ _ _ ⟨b18, rfl, rfl, rfl⟩
          refine ⟨_, _, Under.cons Under.refl, Under.refl, ?_⟩
          refine WA.pure [6] [1, 2, 5, 6] (m := 0) (b' := 127) (L' := [(1, .slice Al1 l1.length cl1), (2, .pointer (some ⟨b1, 0, none⟩)), (5, .pointer none), (6, .pointer (some ⟨b18, 0, none⟩))]) (by kernel_rfl) (NoPanic.then (NoPanic.body)) Under.refl hS (by kernel_rfl) ?_
          refine WA.done hS (by kernel_rfl) ?_
          refine QP.pick [1, 2, 5, 6] ?_
          refine QP.next ?_
          refine WP.seq ?_
          refine WP.seq ?_
          refine WP.any (N := 8) (S := [⟨some 27, [5], []⟩, ⟨some 28, [27], [0]⟩, ⟨some 29, [28], [1]⟩, ⟨some 30, [5, 29], [2]⟩, ⟨some 31, [29, 30], [2, 3]⟩, ⟨some 32, [2, 29], [2]⟩, ⟨some 33, [29, 31, 32], [2, 4, 5]⟩, ⟨some 34, [29, 33], [2, 6]⟩]) (kw := 8) (G0 := G) (Γ0 := [(b18, .cells #[.int .i64 a0.f0, .int .i64 a0.f1] 36 (0, 0))] :: [(b1, .cells #[.int .i64 a0.f0, .int .i64 a0.f1] 23 (0, 0))] :: Γ) mo (by kernel_rfl) (fun hS => ?_)
          refine WA.pure [0, 1, 2, 3, 4, 5, 6, 7] [1, 5, 6, 34] (m := 0) (b' := 255) (L' := [(1, .slice Al1 l1.length cl1), (5, .pointer none), (6, .pointer (some ⟨b18, 0, none⟩)), (34, .bool true)]) (by kernel_rfl) (NoPanic.then (NoPanic.then (NoPanic.body))) Under.refl hS (by kernel_rfl) ?_
          refine WA.done hS (by kernel_rfl) ?_
          refine QP.pick [1, 5, 6, 34] ?_
          refine QP.next ?_
          refine WP.dropAt 1 ?_
          refine WP.yes (by kernel_rfl) ?_
          refine WP.seqP [4] (L' := [(4, .bool false)]) (by kernel_rfl) ?_
          refine WP.dropAt 0 ?_
          refine WP.ret ?_
          refine QP.thenR ?_
          obtain rfl := Option.some.inj h
          exact QP.returned [4] [.bool false] _ (by kernel_rfl) (by kernel_rfl) (by kernel_rfl) (fun W hI => ⟨_, _, _, rfl, ⟨rfl, rfl, rfl⟩, hI⟩)
        · rw [hx] at h
          rw [Option.elim_some] at h
          clear hx
          refine ⟨_, _, Under.cons (Under.refl), Under.refl, ?_⟩
          refine WA.pure [5] [1, 2, 5, 25] (m := 2) (b' := 47) (L' := [(1, .slice Al1 l1.length cl1), (2, .pointer (some ⟨b1, 0, none⟩)), (5, .pointer (some ⟨bR16, 0, none⟩)), (25, .agg #[.int .i64 a0.f0, .int .i64 a0.f1])]) (by kernel_rfl) (NoPanic.then (NoPanic.body)) Under.refl hS (by kernel_rfl) ?_
          refine WA.op (i := 4) (m := 1) (b' := 63) (by kernel_rfl) hS (by kernel_rfl) (op := .box 36 (.tmp 25)) (ty := 34) (d := some 26) (g := none) (by kernel_rfl) (by kernel_rfl) (by kernel_rfl) (Does.new (o := .cells #[.int .i64 a0.f0, .int .i64 a0.f1] 36 (0, 0)) (v := fun r => .pointer (some ⟨r, 0, none⟩)) (fun r => by kernel_rfl)) ?_
          rintro _ _ _ ⟨b19, rfl, rfl, rfl⟩
          refine ⟨_, _, Under.cons Under.refl, Under.refl, ?_⟩
          refine WA.pure [6] [1, 2, 5, 6] (m := 0) (b' := 127) (L' := [(1, .slice Al1 l1.length cl1), (2, .pointer (some ⟨b1, 0, none⟩)), (5, .pointer (some ⟨bR16, 0, none⟩)), (6, .pointer (some ⟨b19, 0, none⟩))]) (by kernel_rfl) (NoPanic.then (NoPanic.body)) Under.refl hS (by kernel_rfl) ?_
          refine WA.done hS (by kernel_rfl) ?_
          refine QP.pick [1, 2, 5, 6] ?_
          refine QP.next ?_
          refine WP.seq ?_
          refine WP.seq ?_
          refine WP.any (N := 8) (S := [⟨some 27, [5], []⟩, ⟨some 28, [27], [0]⟩, ⟨some 29, [28], [1]⟩, ⟨some 30, [5, 29], [2]⟩, ⟨some 31, [29, 30], [2, 3]⟩, ⟨some 32, [2, 29], [2]⟩, ⟨some 33, [29, 31, 32], [2, 4, 5]⟩, ⟨some 34, [29, 33], [2, 6]⟩]) (kw := 8) (G0 := G) (Γ0 := [(b19, .cells #[.int .i64 a0.f0, .int .i64 a0.f1] 36 (0, 0))] :: [(bR16, .cells #[.int .i64 x17.f0, .int .i64 x17.f1] 81 (0, 0))] :: [(b1, .cells #[.int .i64 a0.f0, .int .i64 a0.f1] 23 (0, 0))] :: Γ) mo (by kernel_rfl) (fun hS => ?_)
          refine WA.pure [0, 1, 2, 3] [1, 2, 5, 6, 29, 30] (m := 4) (b' := 15) (L' := [(1, .slice Al1 l1.length cl1), (2, .pointer (some ⟨b1, 0, none⟩)), (5, .pointer (some ⟨bR16, 0, none⟩)), (6, .pointer (some ⟨b19, 0, none⟩)), (29, .bool false), (30, .pointer (some ⟨bR16, 0, none⟩))]) (by kernel_rfl) (NoPanic.then (NoPanic.then (NoPanic.body))) Under.refl hS (by kernel_rfl) ?_
          refine WA.tellD [] (i := 5) (m := 3) (b' := 47) (by kernel_rfl) (NoPanic.then (NoPanic.then (NoPanic.body))) Under.refl hS (by kernel_rfl) (op := .load 23 (.tmp 2)) (ty := 23) (d := some 32) (g := some (2, false)) (by kernel_rfl) (by kernel_rfl) (by kernel_rfl) (Tells.load_box (i := 2) (b := b1) (o := 0) (agg := true) (by rfl) ag23 (by kernel_rfl) (fun h => by cases h) (Nat.le_of_ble_eq_true rfl) (v := .agg #[.int .i64 a0.f0, .int .i64 a0.f1]) (by kernel_rfl)) ?_
          refine WA.front (i := 1) rfl ?_
          rw [Option.bind_eq_some_iff] at h
          obtain ⟨t20, ht21, h⟩ := h
          refine WA.op (i := 4) (m := 2) (b' := 63) (by kernel_rfl) hS (by kernel_rfl) (op := .call { callee := (.value (.func 25)), args := #[(.tmp 30)], argTypes := #[30] }) (ty := 23) (d := some 31) (g := some (2, false)) (by kernel_rfl) (by kernel_rfl) (by kernel_rfl) (Does.call (f := 25) (args := [.pointer (some ⟨bR16, 0, none⟩)]) (by kernel_rfl) (fun W hI => (stamp_Clock_Last_calls x17 bR16 t20 ht21 hI))) ?_
          rintro _ _ _ ⟨rfl, rfl, rfl⟩
          refine ⟨_, _, (Under.trans (Under.front (i := 1) rfl (Under.refl)) (Under.refl)), Under.refl, ?_⟩
          refine WA.tellD [] (i := 6) (m := 1) (b' := 127) (by kernel_rfl) (NoPanic.then (NoPanic.then (NoPanic.body))) Under.refl hS (by kernel_rfl) (op := .binOp .neq 23 (.tmp 31) (.tmp 32) 23) (ty := 4) (d := some 33) (g := some (2, false)) (by kernel_rfl) (by kernel_rfl) (by kernel_rfl) (Tells.neAgg (xs := #[.int .i64 t20.f0, .int .i64 t20.f1]) (ys := #[.int .i64 a0.f0, .int .i64 a0.f1]) (ls := [.int t20.f0 a0.f0, .int t20.f1 a0.f1]) (by kernel_rfl) (by kernel_rfl) (by kernel_rfl) eg23) ?_
          refine WA.reput 33 (v := .bool (!([.int t20.f0 a0.f0, .int t20.f1 a0.f1].all Lf.ok))) (v' := .bool (!decide (t20 = a0))) (by kernel_rfl) (by exact (congrArg (fun z => Value.bool (!z)) (eqT23 t20 a0))) ?_
          refine WA.pure [7] [1, 5, 6, 34] (m := 0) (b' := 255) (L' := [(1, .slice Al1 l1.length cl1), (5, .pointer (some ⟨bR16, 0, none⟩)), (6, .pointer (some ⟨b19, 0, none⟩)), (34, .bool (!decide (t20 = a0)))]) (by kernel_rfl) (NoPanic.then (NoPanic.then (NoPanic.body))) Under.refl hS (by kernel_rfl) ?_
          refine WA.done hS (by kernel_rfl) ?_
          refine QP.pick [1, 5, 6, 34] ?_
          refine QP.next ?_
          refine WP.dropAt 2 ?_
          refine WP.cond (b := (!decide (t20 = a0))) (by kernel_rfl) (fun hc => ?_) (fun hc => ?_)
          · replace hc := (nd_true hc)
            rw [if_pos hc] at h
            have hc24 := hc
            clear hc
            refine WP.seqP [4] (L' := [(4, .bool false)]) (by kernel_rfl) ?_
            refine WP.dropAt 1 ?_
            refine WP.dropAt 0 ?_
            refine WP.ret ?_
            refine QP.thenR ?_
            obtain rfl := Option.some.inj h
            exact QP.returned [4] [.bool false] _ (by kernel_rfl) (by kernel_rfl) (by kernel_rfl) (fun W hI => ⟨_, _, _, rfl, ⟨rfl, rfl, rfl⟩, hI⟩)
          · replace hc := (nd_false hc)
            rw [if_neg hc] at h
            have hc24 := hc
            clear hc
            refine WP.skip ?_
            refine QP.next ?_
            refine WP.pick [1, 5, 6] ?_
            refine WP.seq ?_
            refine WP.seqP [1, 5, 6, 7] (L' := [(1, .slice Al1 l1.length cl1), (5, .pointer (some ⟨bR16, 0, none⟩)), (6, .pointer (some ⟨b19, 0, none⟩)), (7, .int .i64 0)]) (by kernel_rfl) ?_
            rw [Option.bind_eq_some_iff] at h
            obtain ⟨os25, h, hk26⟩ := h
            refine WP.cutQ (fun L' G' Γ' => ∃ s25 : T81 × T36, Sum.inr s25 = os25 ∧ L' = [] ∧ G = G' ∧ [(bR16, .cells #[.int .i64 s25.1.f0, .int .i64 s25.1.f1] 81 (0, 0))] :: [(b19, .cells #[.int .i64 s25.2.f0, .int .i64 s25.2.f1] 36 (0, 0))] :: Γ = Γ') ?_ ?_
            · skip
              refine WP.block ?_
              refine WP.pick [1, 5, 6, 7] ?_
              refine WP.loopF (fun k30 L' G' Γ' => ∃ (y27 : Int), ∃ (y28 : T81), ∃ (y29 : T36), grapevinelaw2_StampScript_l0 l1 k30 y27 y28 y29 = some os25 ∧ L' = [(1, .slice Al1 l1.length cl1), (5, .pointer (some ⟨bR16, 0, none⟩)), (6, .pointer (some ⟨b19, 0, none⟩)), (7, .int .i64 y27)] ∧ G = G' ∧ [(bR16, .cells #[.int .i64 y28.f0, .int .i64 y28.f1] 81 (0, 0))] :: [(b19, .cells #[.int .i64 y29.f0, .int .i64 y29.f1] 36 (0, 0))] :: Γ = Γ') ?_ k ⟨0, x17, (⟨a0.f0, a0.f1⟩ : T36), h, rfl, rfl, rfl⟩
              clear h
              rintro k31 _ _ _ ⟨y27, y28, y29, h, rfl, rfl, rfl⟩
              cases k31 with
              | zero => exact absurd h (by simp [grapevinelaw2_StampScript_l0])
              | succ k31 =>
                simp only [grapevinelaw2_StampScript_l0] at h
                refine WP.seq ?_
                refine WP.seqP [1, 5, 6, 7, 38] (L' := [(1, .slice Al1 l1.length cl1), (5, .pointer (some ⟨bR16, 0, none⟩)), (6, .pointer (some ⟨b19, 0, none⟩)), (7, .int .i64 y27), (38, .bool (decide (y27 < (l1.length : Int))))]) (by kernel_rfl) ?_
                refine WP.cond (b := decide (y27 < (l1.length : Int))) (by kernel_rfl) (fun hc => ?_) (fun hc => ?_)
                · replace hc := of_decide_eq_true hc
                  rw [if_pos hc] at h
                  have hc32 := hc
                  clear hc
                  refine WP.skip ?_
                  refine QP.next ?_
                  refine WP.pick [1, 5, 6, 7] ?_
                  refine WP.seq ?_
                  refine WP.block ?_
                  refine WP.seqR ?_
                  refine WL.pure 0 2 [1, 5, 6, 7, 41, 42] (L' := [(1, .slice Al1 l1.length cl1), (5, .pointer (some ⟨bR16, 0, none⟩)), (6, .pointer (some ⟨b19, 0, none⟩)), (7, .int .i64 y27), (41, .slice Al1 l1.length cl1), (42, .int .i64 y27)]) (by kernel_rfl) (by decide) ?_
                  by_cases hb33 : 0 ≤ y27 ∧ y27 < (l1.length : Int)
                  case neg => rw [if_neg hb33] at h; cases h
                  rw [if_pos hb33] at h
                  refine WL.tell (op := .indexAddr 33 (.tmp 41) (.tmp 42)) (ty := 0) (d := some 43) (g := none) (by kernel_rfl) (by kernel_rfl) (by kernel_rfl) (Tells.indexAddr (A := Al1) (n := l1.length) (c := cl1) (k := .i64) (j := y27) (by kernel_rfl) (by kernel_rfl) (Hl1.isSome hb33.1 hb33.2) hb33.1 hb33.2 sl33) ?_
                  refine WL.tellE (op := .load 39 (.tmp 43)) (ty := 39) (d := some 44) (g := none) (by kernel_rfl) (by kernel_rfl) (by kernel_rfl) (Hl1.load (agg := true) hb33.1 hb33.2 z39 ag39 (fun h => by cases h) (by kernel_rfl)) ?_
                  rintro _ rfl
                  refine WL.op (op := .alloc 39) (ty := 0) (d := some 8) (g := none) (by kernel_rfl) (by kernel_rfl) (by kernel_rfl) (Does.new (o := .cells #[.bool false, .int .i64 0, .int .i64 0, .int .i64 0] 39 (0, 0)) (v := fun r => .pointer (some ⟨r, 0, none⟩)) (fun r => by kernel_rfl)) ?_
                  rintro _ _ _ ⟨b34, rfl, rfl, rfl⟩
                  refine WL.op (op := .store 39 (.tmp 8) (.tmp 44)) (ty := 0) (d := none) (g := none) (by kernel_rfl) (by kernel_rfl) (by kernel_rfl) (Does.store_box (i := 0) (b := b34) (o := 0) (v := .agg #[.bool ((l1.getD y27.toNat z39).f0), .int .i64 ((l1.getD y27.toNat z39).f1), .int .i64 ((l1.getD y27.toNat z39).f2), .int .i64 ((l1.getD y27.toNat z39).f3)]) (by rfl) sz39 (by kernel_rfl) (by kernel_rfl) (by kernel_rfl) (Free.zero _) (Nat.le_of_ble_eq_true rfl) (cells' := #[.bool ((l1.getD y27.toNat z39).f0), .int .i64 ((l1.getD y27.toNat z39).f1), .int .i64 ((l1.getD y27.toNat z39).f2), .int .i64 ((l1.getD y27.toNat z39).f3)]) (by kernel_rfl)) ?_
                  rintro _ _ _ ⟨rfl, rfl, rfl⟩
                  refine WL.restQ 6 [1, 5, 6, 7, 8] (L' := [(1, .slice Al1 l1.length cl1), (5, .pointer (some ⟨bR16, 0, none⟩)), (6, .pointer (some ⟨b19, 0, none⟩)), (7, .int .i64 y27), (8, .pointer (some ⟨b34, 0, none⟩))]) (by kernel_rfl) ?_
                  refine WP.seq ?_
                  refine WP.seqR ?_
                  refine WL.pure 0 1 [1, 5, 6, 7, 8, 45] (L' := [(1, .slice Al1 l1.length cl1), (5, .pointer (some ⟨bR16, 0, none⟩)), (6, .pointer (some ⟨b19, 0, none⟩)), (7, .int .i64 y27), (8, .pointer (some ⟨b34, 0, none⟩)), (45, .pointer (some ⟨b34, 0, none⟩))]) (by kernel_rfl) (by decide) ?_
                  refine WL.tell (op := .load 4 (.tmp 45)) (ty := 4) (d := some 46) (g := none) (by kernel_rfl) (by kernel_rfl) (by kernel_rfl) (Tells.load_box (i := 0) (b := b34) (o := 0) (agg := false) (by rfl) ag4 (by kernel_rfl) (fun _ => rfl) (Nat.le_of_ble_eq_true rfl) (v := .bool ((l1.getD y27.toNat z39).f0)) (by kernel_rfl)) ?_
                  refine WL.restQ 2 [1, 5, 6, 7, 8, 46] (L' := [(1, .slice Al1 l1.length cl1), (5, .pointer (some ⟨bR16, 0, none⟩)), (6, .pointer (some ⟨b19, 0, none⟩)), (7, .int .i64 y27), (8, .pointer (some ⟨b34, 0, none⟩)), (46, .bool ((l1.getD y27.toNat z39).f0))]) (by kernel_rfl) ?_
                  refine WP.cond (b := (l1.getD y27.toNat z39).f0) (by kernel_rfl) (fun hc => ?_) (fun hc => ?_)
                  · replace hc := hc
                    rw [if_pos hc] at h
                    have hc35 := hc
                    clear hc
                    refine WP.seq ?_
                    refine WP.any (N := 14) (S := [⟨some 47, [5], []⟩, ⟨some 48, [8], []⟩, ⟨some 49, [48], [1]⟩, ⟨some 50, [8], []⟩, ⟨some 51, [50], [3]⟩, ⟨some 52, [47, 49, 51], [0, 2, 4]⟩, ⟨some 53, [52], [5]⟩, ⟨some 54, [6], []⟩, ⟨some 55, [8], []⟩, ⟨some 56, [55], [8]⟩, ⟨some 57, [8], []⟩, ⟨some 58, [57], [10]⟩, ⟨some 59, [54, 56, 58], [6, 7, 9, 11]⟩, ⟨some 60, [53, 59], [6, 12]⟩]) (kw := 14) (G0 := G) (Γ0 := [[(b34, .cells #[.bool ((l1.getD y27.toNat z39).f0), .int .i64 ((l1.getD y27.toNat z39).f1), .int .i64 ((l1.getD y27.toNat z39).f2), .int .i64 ((l1.getD y27.toNat z39).f3)] 39 (0, 0))]]) mo (by kernel_rfl) (fun hS => ?_)
                    refine WA.pure [0, 1, 3, 7, 8, 10] [1, 5, 6, 7, 47, 48, 50, 54, 55, 57] (m := 8) (b' := 1419) (L' := [(1, .slice Al1 l1.length cl1), (5, .pointer (some ⟨bR16, 0, none⟩)), (6, .pointer (some ⟨b19, 0, none⟩)), (7, .int .i64 y27), (47, .pointer (some ⟨bR16, 0, none⟩)), (48, .pointer (some ⟨b34, 1, none⟩)), (50, .pointer (some ⟨b34, 3, none⟩)), (54, .pointer (some ⟨b19, 0, none⟩)), (55, .pointer (some ⟨b34, 1, none⟩)), (57, .pointer (some ⟨b34, 3, none⟩))]) (by kernel_rfl) (NoPanic.then (NoPanic.then (NoPanic.block (NoPanic.then (NoPanic.then (NoPanic.block (NoPanic.then (NoPanic.then (NoPanic.body))))))))) (Under.mem (C := [(b34, .cells #[.bool ((l1.getD y27.toNat z39).f0), .int .i64 ((l1.getD y27.toNat z39).f1), .int .i64 ((l1.getD y27.toNat z39).f2), .int .i64 ((l1.getD y27.toNat z39).f3)] 39 (0, 0))]) (by repeat first | exact List.Mem.head _ | apply List.Mem.tail)) hS (by kernel_rfl) ?_
                    refine WA.tellD [] (i := 2) (m := 7) (b' := 1423) (by kernel_rfl) (NoPanic.then (NoPanic.then (NoPanic.block (NoPanic.then (NoPanic.then (NoPanic.block (NoPanic.then (NoPanic.then (NoPanic.body))))))))) (Under.mem (C := [(b34, .cells #[.bool ((l1.getD y27.toNat z39).f0), .int .i64 ((l1.getD y27.toNat z39).f1), .int .i64 ((l1.getD y27.toNat z39).f2), .int .i64 ((l1.getD y27.toNat z39).f3)] 39 (0, 0))]) (by repeat first | exact List.Mem.head _ | apply List.Mem.tail)) hS (by kernel_rfl) (op := .load 23 (.tmp 48)) (ty := 23) (d := some 49) (g := none) (by kernel_rfl) (by kernel_rfl) (by kernel_rfl) (Tells.load_box (i := 0) (b := b34) (o := 1) (agg := true) (by rfl) ag23 (by kernel_rfl) (fun h => by cases h) (Nat.le_of_ble_eq_true rfl) (v := .agg #[.int .i64 ((l1.getD y27.toNat z39).f1), .int .i64 ((l1.getD y27.toNat z39).f2)]) (by kernel_rfl)) ?_
                    refine WA.tellD [] (i := 4) (m := 6) (b' := 1439) (by kernel_rfl) (NoPanic.then (NoPanic.then (NoPanic.block (NoPanic.then (NoPanic.then (NoPanic.block (NoPanic.then (NoPanic.then (NoPanic.body))))))))) (Under.mem (C := [(b34, .cells #[.bool ((l1.getD y27.toNat z39).f0), .int .i64 ((l1.getD y27.toNat z39).f1), .int .i64 ((l1.getD y27.toNat z39).f2), .int .i64 ((l1.getD y27.toNat z39).f3)] 39 (0, 0))]) (by repeat first | exact List.Mem.head _ | apply List.Mem.tail)) hS (by kernel_rfl) (op := .load 3 (.tmp 50)) (ty := 3) (d := some 51) (g := none) (by kernel_rfl) (by kernel_rfl) (by kernel_rfl) (Tells.load_box (i := 0) (b := b34) (o := 3) (agg := false) (by rfl) ag3 (by kernel_rfl) (fun _ => rfl) (Nat.le_of_ble_eq_true rfl) (v := .int .i64 ((l1.getD y27.toNat z39).f3)) (by kernel_rfl)) ?_
                    refine WA.tellD [] (i := 9) (m := 5) (b' := 1951) (by kernel_rfl) (NoPanic.then (NoPanic.then (NoPanic.block (NoPanic.then (NoPanic.then (NoPanic.block (NoPanic.then (NoPanic.then (NoPanic.body))))))))) (Under.mem (C := [(b34, .cells #[.bool ((l1.getD y27.toNat z39).f0), .int .i64 ((l1.getD y27.toNat z39).f1), .int .i64 ((l1.getD y27.toNat z39).f2), .int .i64 ((l1.getD y27.toNat z39).f3)] 39 (0, 0))]) (by repeat first | exact List.Mem.head _ | apply List.Mem.tail)) hS (by kernel_rfl) (op := .load 23 (.tmp 55)) (ty := 23) (d := some 56) (g := none) (by kernel_rfl) (by kernel_rfl) (by kernel_rfl) (Tells.load_box (i := 0) (b := b34) (o := 1) (agg := true) (by rfl) ag23 (by kernel_rfl) (fun h => by cases h) (Nat.le_of_ble_eq_true rfl) (v := .agg #[.int .i64 ((l1.getD y27.toNat z39).f1), .int .i64 ((l1.getD y27.toNat z39).f2)]) (by kernel_rfl)) ?_
                    refine WA.tellD [] (i := 11) (m := 4) (b' := 3999) (by kernel_rfl) (NoPanic.then (NoPanic.then (NoPanic.block (NoPanic.then (NoPanic.then (NoPanic.block (NoPanic.then (NoPanic.then (NoPanic.body))))))))) (Under.mem (C := [(b34, .cells #[.bool ((l1.getD y27.toNat z39).f0), .int .i64 ((l1.getD y27.toNat z39).f1), .int .i64 ((l1.getD y27.toNat z39).f2), .int .i64 ((l1.getD y27.toNat z39).f3)] 39 (0, 0))]) (by repeat first | exact List.Mem.head _ | apply List.Mem.tail)) hS (by kernel_rfl) (op := .load 3 (.tmp 57)) (ty := 3) (d := some 58) (g := none) (by kernel_rfl) (by kernel_rfl) (by kernel_rfl) (Tells.load_box (i := 0) (b := b34) (o := 3) (agg := false) (by rfl) ag3 (by kernel_rfl) (fun _ => rfl) (Nat.le_of_ble_eq_true rfl) (v := .int .i64 ((l1.getD y27.toNat z39).f3)) (by kernel_rfl)) ?_
                    refine WA.front (i := 1) rfl ?_
                    rw [Option.bind_eq_some_iff] at h
                    obtain ⟨t36, ht37, h⟩ := h
                    refine WA.op (i := 5) (m := 3) (b' := 4031) (by kernel_rfl) hS (by kernel_rfl) (op := .call { callee := (.value (.func 27)), args := #[(.tmp 47), (.tmp 49), (.tmp 51)], argTypes := #[30, 23, 3] }) (ty := 41) (d := some 52) (g := none) (by kernel_rfl) (by kernel_rfl) (by kernel_rfl) (Does.call (f := 27) (args := [.pointer (some ⟨bR16, 0, none⟩), .agg #[.int .i64 ((l1.getD y27.toNat z39).f1), .int .i64 ((l1.getD y27.toNat z39).f2)], .int .i64 ((l1.getD y27.toNat z39).f3)]) (by kernel_rfl) (fun W hI => (stamp_Clock_See_calls k31 y28 (⟨(l1.getD y27.toNat z39).f1, (l1.getD y27.toNat z39).f2⟩ : T23) ((l1.getD y27.toNat z39).f3) bR16 t36 ht37 hI))) ?_
                    rintro _ _ _ ⟨rfl, rfl, rfl⟩
                    refine ⟨_, _, Under.refl, (Under.mem (C := [(b34, .cells #[.bool ((l1.getD y27.toNat z39).f0), .int .i64 ((l1.getD y27.toNat z39).f1), .int .i64 ((l1.getD y27.toNat z39).f2), .int .i64 ((l1.getD y27.toNat z39).f3)] 39 (0, 0))]) (by repeat first | exact List.Mem.head _ | apply List.Mem.tail)), ?_⟩
                    rw [Option.bind_eq_some_iff] at h
                    obtain ⟨t40, ht41, h⟩ := h
                    refine WA.op (i := 6) (m := 2) (b' := 4095) (by kernel_rfl) hS (by kernel_rfl) (op := .call { callee := (.value (.func 26)), args := #[(.tmp 52)], argTypes := #[41] }) (ty := 3) (d := some 53) (g := none) (by kernel_rfl) (by kernel_rfl) (by kernel_rfl) (Does.call (f := 26) (args := [.int .i64 t36.1]) (by kernel_rfl) (fun W hI => (grapevinelaw0_Num_calls t36.1  t40 ht41 hI))) ?_
                    rintro _ _ _ ⟨rfl, rfl, rfl⟩
                    refine ⟨_, _, Under.refl, (Under.mem (C := [(b34, .cells #[.bool ((l1.getD y27.toNat z39).f0), .int .i64 ((l1.getD y27.toNat z39).f1), .int .i64 ((l1.getD y27.toNat z39).f2), .int .i64 ((l1.getD y27.toNat z39).f3)] 39 (0, 0))]) (by repeat first | exact List.Mem.head _ | apply List.Mem.tail)), ?_⟩
                    refine WA.front (i := 2) rfl ?_
                    rw [Option.bind_eq_some_iff] at h
                    obtain ⟨t44, ht45, h⟩ := h
                    refine WA.op (i := 12) (m := 1) (b' := 8191) (by kernel_rfl) hS (by kernel_rfl) (op := .call { callee := (.value (.func 28)), args := #[(.tmp 54), (.tmp 56), (.tmp 58)], argTypes := #[34, 23, 3] }) (ty := 3) (d := some 59) (g := none) (by kernel_rfl) (by kernel_rfl) (by kernel_rfl) (Does.call (f := 28) (args := [.pointer (some ⟨b19, 0, none⟩), .agg #[.int .i64 ((l1.getD y27.toNat z39).f1), .int .i64 ((l1.getD y27.toNat z39).f2)], .int .i64 ((l1.getD y27.toNat z39).f3)]) (by kernel_rfl) (fun W hI => (grapevineref2_Clock_See_calls y29 (⟨(l1.getD y27.toNat z39).f1, (l1.getD y27.toNat z39).f2⟩ : T23) ((l1.getD y27.toNat z39).f3) b19 t44 ht45 hI))) ?_
                    rintro _ _ _ ⟨rfl, rfl, rfl⟩
                    refine ⟨_, _, Under.refl, (Under.mem (C := [(b34, .cells #[.bool ((l1.getD y27.toNat z39).f0), .int .i64 ((l1.getD y27.toNat z39).f1), .int .i64 ((l1.getD y27.toNat z39).f2), .int .i64 ((l1.getD y27.toNat z39).f3)] 39 (0, 0))]) (by repeat first | exact List.Mem.head _ | apply List.Mem.tail)), ?_⟩
                    refine WA.pure [13] [1, 5, 6, 7, 60] (m := 0) (b' := 16383) (L' := [(1, .slice Al1 l1.length cl1), (5, .pointer (some ⟨bR16, 0, none⟩)), (6, .pointer (some ⟨b19, 0, none⟩)), (7, .int .i64 y27), (60, .bool (t40 != t44.1))]) (by kernel_rfl) (NoPanic.then (NoPanic.then (NoPanic.block (NoPanic.then (NoPanic.then (NoPanic.block (NoPanic.then (NoPanic.then (NoPanic.body))))))))) (Under.mem (C := [(b34, .cells #[.bool ((l1.getD y27.toNat z39).f0), .int .i64 ((l1.getD y27.toNat z39).f1), .int .i64 ((l1.getD y27.toNat z39).f2), .int .i64 ((l1.getD y27.toNat z39).f3)] 39 (0, 0))]) (by repeat first | exact List.Mem.head _ | apply List.Mem.tail)) hS (by kernel_rfl) ?_
                    refine WA.done hS (by kernel_rfl) ?_
                    refine QP.pick [1, 5, 6, 7, 60] ?_
                    refine QP.next ?_
                    refine WP.dropAt 2 ?_
                    refine WP.cond (b := (t40 != t44.1)) (by kernel_rfl) (fun hc => ?_) (fun hc => ?_)
                    · replace hc := (bne_iff_ne.1 hc)
                      rw [if_pos hc] at h
                      have hc48 := hc
                      clear hc
                      refine WP.seqP [4] (L' := [(4, .bool false)]) (by kernel_rfl) ?_
                      refine WP.dropAt 1 ?_
                      refine WP.dropAt 0 ?_
                      refine WP.ret ?_
                      refine QP.thenR ?_
                      refine QP.blockR ?_
                      refine QP.thenR ?_
                      refine QP.thenR ?_
                      refine QP.blockR ?_
                      refine QP.thenR ?_
                      refine QP.thenR ?_
                      obtain rfl := Option.some.inj h
                      obtain rfl := Option.some.inj (show some _ = some _ from hk26)
                      exact QP.returned [4] [.bool false] _ (by kernel_rfl) (by kernel_rfl) (by kernel_rfl) (fun W hI => ⟨_, _, _, rfl, ⟨rfl, rfl, rfl⟩, hI⟩)
                    · replace hc := (not_not_intro (bne_eq_false_iff_eq.1 hc))
                      rw [if_neg hc] at h
                      have hc48 := hc
                      clear hc
                      refine WP.skip ?_
                      refine QP.next ?_
                      refine WP.pick [1, 5, 6, 7] ?_
                      refine WP.seq ?_
                      refine WP.any (N := 7) (S := [⟨some 84, [5], []⟩, ⟨some 85, [84], [0]⟩, ⟨some 86, [6], []⟩, ⟨some 87, [86], [2]⟩, ⟨some 88, [87], [3]⟩, ⟨some 89, [88], [4]⟩, ⟨some 90, [85, 89], [1, 5]⟩]) (kw := 7) (G0 := G) (Γ0 := [(b19, .cells #[.int .i64 t44.2.f0, .int .i64 t44.2.f1] 36 (0, 0))] :: [(bR16, .cells #[.int .i64 t36.2.f0, .int .i64 t36.2.f1] 81 (0, 0))] :: Γ) mo (by kernel_rfl) (fun hS => ?_)
                      refine WA.pure [0, 2, 3, 4] [1, 5, 6, 7, 84, 88] (m := 3) (b' := 29) (L' := [(1, .slice Al1 l1.length cl1), (5, .pointer (some ⟨bR16, 0, none⟩)), (6, .pointer (some ⟨b19, 0, none⟩)), (7, .int .i64 y27), (84, .pointer (some ⟨bR16, 0, none⟩)), (88, .pointer (some ⟨b19, 0, none⟩))]) (by kernel_rfl) (NoPanic.then (NoPanic.block (NoPanic.then (NoPanic.then (NoPanic.block (NoPanic.then (NoPanic.then (NoPanic.body)))))))) Under.refl hS (by kernel_rfl) ?_
                      refine WA.tellD [] (i := 5) (m := 2) (b' := 61) (by kernel_rfl) (NoPanic.then (NoPanic.block (NoPanic.then (NoPanic.then (NoPanic.block (NoPanic.then (NoPanic.then (NoPanic.body)))))))) Under.refl hS (by kernel_rfl) (op := .load 23 (.tmp 88)) (ty := 23) (d := some 89) (g := none) (by kernel_rfl) (by kernel_rfl) (by kernel_rfl) (Tells.load_box (i := 0) (b := b19) (o := 0) (agg := true) (by rfl) ag23 (by kernel_rfl) (fun h => by cases h) (Nat.le_of_ble_eq_true rfl) (v := .agg #[.int .i64 t44.2.f0, .int .i64 t44.2.f1]) (by kernel_rfl)) ?_
                      refine WA.front (i := 1) rfl ?_
                      rw [Option.bind_eq_some_iff] at h
                      obtain ⟨t49, ht50, h⟩ := h
                      refine WA.op (i := 1) (m := 1) (b' := 63) (by kernel_rfl) hS (by kernel_rfl) (op := .call { callee := (.value (.func 25)), args := #[(.tmp 84)], argTypes := #[30] }) (ty := 23) (d := some 85) (g := none) (by kernel_rfl) (by kernel_rfl) (by kernel_rfl) (Does.call (f := 25) (args := [.pointer (some ⟨bR16, 0, none⟩)]) (by kernel_rfl) (fun W hI => (stamp_Clock_Last_calls t36.2 bR16 t49 ht50 hI))) ?_
                      rintro _ _ _ ⟨rfl, rfl, rfl⟩
                      refine ⟨_, _, (Under.trans (Under.front (i := 1) rfl (Under.refl)) (Under.refl)), Under.refl, ?_⟩
                      refine WA.tellD [] (i := 6) (m := 0) (b' := 127) (by kernel_rfl) (NoPanic.then (NoPanic.block (NoPanic.then (NoPanic.then (NoPanic.block (NoPanic.then (NoPanic.then (NoPanic.body)))))))) Under.refl hS (by kernel_rfl) (op := .binOp .neq 23 (.tmp 85) (.tmp 89) 23) (ty := 4) (d := some 90) (g := none) (by kernel_rfl) (by kernel_rfl) (by kernel_rfl) (Tells.neAgg (xs := #[.int .i64 t49.f0, .int .i64 t49.f1]) (ys := #[.int .i64 t44.2.f0, .int .i64 t44.2.f1]) (ls := [.int t49.f0 t44.2.f0, .int t49.f1 t44.2.f1]) (by kernel_rfl) (by kernel_rfl) (by kernel_rfl) eg23) ?_
                      refine WA.reput 90 (v := .bool (!([.int t49.f0 t44.2.f0, .int t49.f1 t44.2.f1].all Lf.ok))) (v' := .bool (!decide (t49 = (⟨t44.2.f0, t44.2.f1⟩ : T23)))) (by kernel_rfl) (by exact (congrArg (fun z => Value.bool (!z)) (eqT23 t49 (⟨t44.2.f0, t44.2.f1⟩ : T23)))) ?_
                      refine WA.done hS (by kernel_rfl) ?_
                      refine QP.pick [1, 5, 6, 7, 90] ?_
                      refine QP.next ?_
                      refine WP.cond (b := (!decide (t49 = (⟨t44.2.f0, t44.2.f1⟩ : T23)))) (by kernel_rfl) (fun hc => ?_) (fun hc => ?_)
                      · replace hc := (nd_true hc)
                        rw [if_pos hc] at h
                        have hc53 := hc
                        clear hc
                        refine WP.seqP [4] (L' := [(4, .bool false)]) (by kernel_rfl) ?_
                        refine WP.dropAt 1 ?_
                        refine WP.dropAt 0 ?_
                        refine WP.ret ?_
                        refine QP.blockR ?_
                        refine QP.thenR ?_
                        refine QP.thenR ?_
                        refine QP.blockR ?_
                        refine QP.thenR ?_
                        refine QP.thenR ?_
                        obtain rfl := Option.some.inj h
                        obtain rfl := Option.some.inj (show some _ = some _ from hk26)
                        exact QP.returned [4] [.bool false] _ (by kernel_rfl) (by kernel_rfl) (by kernel_rfl) (fun W hI => ⟨_, _, _, rfl, ⟨rfl, rfl, rfl⟩, hI⟩)
                      · replace hc := (nd_false hc)
                        rw [if_neg hc] at h
                        have hc53 := hc
                        clear hc
                        refine WP.skip ?_
                        refine QP.blockN ?_
                        refine QP.next ?_
                        refine WP.pick [1, 5, 6, 7] ?_
                        refine WP.regionP [1, 5, 6, 7] (L' := [(1, .slice Al1 l1.length cl1), (5, .pointer (some ⟨bR16, 0, none⟩)), (6, .pointer (some ⟨b19, 0, none⟩)), (7, .int .i64 (IntKind.i64.wrap (y27 + 1)))]) (by kernel_rfl) ?_
                        refine QP.front (i := 1) rfl ?_
                        refine QP.front (i := 1) rfl ?_
                        refine QP.pick [1, 5, 6, 7] ?_
                        exact QP.meet ⟨k31, Nat.lt_succ_self _, (IntKind.i64.wrap (y27 + 1)), t36.2, t44.2, h, rfl, rfl, rfl⟩
                  · replace hc := (Bool.eq_false_iff.1 hc)
                    rw [if_neg hc] at h
                    have hc35 := hc
                    clear hc
                    refine WP.seqR ?_
                    refine WL.pure 0 2 [1, 5, 6, 7, 8, 62, 63] (L' := [(1, .slice Al1 l1.length cl1), (5, .pointer (some ⟨bR16, 0, none⟩)), (6, .pointer (some ⟨b19, 0, none⟩)), (7, .int .i64 y27), (8, .pointer (some ⟨b34, 0, none⟩)), (62, .pointer (some ⟨bR16, 0, none⟩)), (63, .pointer (some ⟨b34, 3, none⟩))]) (by kernel_rfl) (by decide) ?_
                    refine WL.tell (op := .load 3 (.tmp 63)) (ty := 3) (d := some 64) (g := none) (by kernel_rfl) (by kernel_rfl) (by kernel_rfl) (Tells.load_box (i := 0) (b := b34) (o := 3) (agg := false) (by rfl) ag3 (by kernel_rfl) (fun _ => rfl) (Nat.le_of_ble_eq_true rfl) (v := .int .i64 ((l1.getD y27.toNat z39).f3)) (by kernel_rfl)) ?_
                    refine WL.front (i := 1) rfl ?_
                    rw [Option.bind_eq_some_iff] at h
                    obtain ⟨t54, ht55, h⟩ := h
                    refine WL.op (op := .call { callee := (.value (.func 29)), args := #[(.tmp 62), (.tmp 64)], argTypes := #[30, 3] }) (ty := 44) (d := some 65) (g := none) (by kernel_rfl) (by kernel_rfl) (by kernel_rfl) (Does.call (f := 29) (args := [.pointer (some ⟨bR16, 0, none⟩), .int .i64 ((l1.getD y27.toNat z39).f3)]) (by kernel_rfl) (fun W hI => (stamp_Clock_Tick_calls y28 ((l1.getD y27.toNat z39).f3) bR16 t54 ht55 hI))) ?_
                    rintro _ _ _ ⟨rfl, rfl, rfl⟩
                    refine WL.pure 4 7 [1, 5, 6, 7, 8, 66, 67] (L' := [(1, .slice Al1 l1.length cl1), (5, .pointer (some ⟨bR16, 0, none⟩)), (6, .pointer (some ⟨b19, 0, none⟩)), (7, .int .i64 y27), (8, .pointer (some ⟨b34, 0, none⟩)), (66, .agg #[.int .i64 t54.1.f0, .int .i64 t54.1.f1]), (67, .int .i64 t54.2.1)]) (by kernel_rfl) (by decide) ?_
                    refine WL.op (op := .alloc 23) (ty := 0) (d := some 9) (g := none) (by kernel_rfl) (by kernel_rfl) (by kernel_rfl) (Does.new (o := .cells #[.int .i64 0, .int .i64 0] 23 (0, 0)) (v := fun r => .pointer (some ⟨r, 0, none⟩)) (fun r => by kernel_rfl)) ?_
                    rintro _ _ _ ⟨b58, rfl, rfl, rfl⟩
                    refine WL.op (op := .store 23 (.tmp 9) (.tmp 66)) (ty := 0) (d := none) (g := none) (by kernel_rfl) (by kernel_rfl) (by kernel_rfl) (Does.store_box (i := 0) (b := b58) (o := 0) (v := .agg #[.int .i64 t54.1.f0, .int .i64 t54.1.f1]) (by rfl) sz23 (by kernel_rfl) (by kernel_rfl) (by kernel_rfl) (Free.zero _) (Nat.le_of_ble_eq_true rfl) (cells' := #[.int .i64 t54.1.f0, .int .i64 t54.1.f1]) (by kernel_rfl)) ?_
                    rintro _ _ _ ⟨rfl, rfl, rfl⟩
                    refine WL.restQ 9 [1, 5, 6, 7, 8, 9, 10] (L' := [(1, .slice Al1 l1.length cl1), (5, .pointer (some ⟨bR16, 0, none⟩)), (6, .pointer (some ⟨b19, 0, none⟩)), (7, .int .i64 y27), (8, .pointer (some ⟨b34, 0, none⟩)), (9, .pointer (some ⟨b58, 0, none⟩)), (10, .int .i64 t54.2.1)]) (by kernel_rfl) ?_
                    refine WP.seqR ?_
                    refine WL.pure 0 2 [1, 5, 6, 7, 9, 10, 69, 70] (L' := [(1, .slice Al1 l1.length cl1), (5, .pointer (some ⟨bR16, 0, none⟩)), (6, .pointer (some ⟨b19, 0, none⟩)), (7, .int .i64 y27), (9, .pointer (some ⟨b58, 0, none⟩)), (10, .int .i64 t54.2.1), (69, .pointer (some ⟨b19, 0, none⟩)), (70, .pointer (some ⟨b34, 3, none⟩))]) (by kernel_rfl) (by decide) ?_
                    refine WL.tell (op := .load 3 (.tmp 70)) (ty := 3) (d := some 71) (g := none) (by kernel_rfl) (by kernel_rfl) (by kernel_rfl) (Tells.load_box (i := 2) (b := b34) (o := 3) (agg := false) (by rfl) ag3 (by kernel_rfl) (fun _ => rfl) (Nat.le_of_ble_eq_true rfl) (v := .int .i64 ((l1.getD y27.toNat z39).f3)) (by kernel_rfl)) ?_
                    refine WL.front (i := 3) rfl ?_
                    rw [Option.bind_eq_some_iff] at h
                    obtain ⟨t59, ht60, h⟩ := h
                    refine WL.op (op := .call { callee := (.value (.func 30)), args := #[(.tmp 69), (.tmp 71)], argTypes := #[34, 3] }) (ty := 46) (d := some 72) (g := none) (by kernel_rfl) (by kernel_rfl) (by kernel_rfl) (Does.call (f := 30) (args := [.pointer (some ⟨b19, 0, none⟩), .int .i64 ((l1.getD y27.toNat z39).f3)]) (by kernel_rfl) (fun W hI => (grapevineref2_Clock_Tick_calls y29 ((l1.getD y27.toNat z39).f3) b19 t59 ht60 hI))) ?_
                    rintro _ _ _ ⟨rfl, rfl, rfl⟩
                    refine WL.pure 4 7 [1, 5, 6, 7, 9, 10, 73, 74] (L' := [(1, .slice Al1 l1.length cl1), (5, .pointer (some ⟨bR16, 0, none⟩)), (6, .pointer (some ⟨b19, 0, none⟩)), (7, .int .i64 y27), (9, .pointer (some ⟨b58, 0, none⟩)), (10, .int .i64 t54.2.1), (73, .agg #[.int .i64 t59.1.f0, .int .i64 t59.1.f1]), (74, .int .i64 t59.2.1)]) (by kernel_rfl) (by decide) ?_
                    refine WL.op (op := .alloc 23) (ty := 0) (d := some 11) (g := none) (by kernel_rfl) (by kernel_rfl) (by kernel_rfl) (Does.new (o := .cells #[.int .i64 0, .int .i64 0] 23 (0, 0)) (v := fun r => .pointer (some ⟨r, 0, none⟩)) (fun r => by kernel_rfl)) ?_
                    rintro _ _ _ ⟨b63, rfl, rfl, rfl⟩
                    refine WL.op (op := .store 23 (.tmp 11) (.tmp 73)) (ty := 0) (d := none) (g := none) (by kernel_rfl) (by kernel_rfl) (by kernel_rfl) (Does.store_box (i := 0) (b := b63) (o := 0) (v := .agg #[.int .i64 t59.1.f0, .int .i64 t59.1.f1]) (by rfl) sz23 (by kernel_rfl) (by kernel_rfl) (by kernel_rfl) (Free.zero _) (Nat.le_of_ble_eq_true rfl) (cells' := #[.int .i64 t59.1.f0, .int .i64 t59.1.f1]) (by kernel_rfl)) ?_
                    rintro _ _ _ ⟨rfl, rfl, rfl⟩
                    refine WL.restQ 9 [1, 5, 6, 7, 9, 10, 11, 12] (L' := [(1, .slice Al1 l1.length cl1), (5, .pointer (some ⟨bR16, 0, none⟩)), (6, .pointer (some ⟨b19, 0, none⟩)), (7, .int .i64 y27), (9, .pointer (some ⟨b58, 0, none⟩)), (10, .int .i64 t54.2.1), (11, .pointer (some ⟨b63, 0, none⟩)), (12, .int .i64 t59.2.1)]) (by kernel_rfl) ?_
                    refine WP.dropAt 4 ?_
                    rw [Option.bind_eq_some_iff] at h
                    obtain ⟨os64, h, hk65⟩ := h
                    refine WP.cut (fun L' G' Γ' => ∃ s64 : Bool, s64 = os64 ∧ L' = [(1, .slice Al1 l1.length cl1), (5, .pointer (some ⟨bR16, 0, none⟩)), (6, .pointer (some ⟨b19, 0, none⟩)), (7, .int .i64 y27), (83, .bool s64)] ∧ G = G' ∧ [(b63, .cells #[.int .i64 t59.1.f0, .int .i64 t59.1.f1] 23 (0, 0))] :: [(b19, .cells #[.int .i64 t59.2.2.f0, .int .i64 t59.2.2.f1] 36 (0, 0))] :: [(b58, .cells #[.int .i64 t54.1.f0, .int .i64 t54.1.f1] 23 (0, 0))] :: [(bR16, .cells #[.int .i64 t54.2.2.f0, .int .i64 t54.2.2.f1] 81 (0, 0))] :: Γ = Γ') ?_ ?_
                    · clear hk65
                      refine WP.region ?_
                      refine WL.tell (op := .load 23 (.tmp 9)) (ty := 23) (d := some 75) (g := none) (by kernel_rfl) (by kernel_rfl) (by kernel_rfl) (Tells.load_box (i := 2) (b := b58) (o := 0) (agg := true) (by rfl) ag23 (by kernel_rfl) (fun h => by cases h) (Nat.le_of_ble_eq_true rfl) (v := .agg #[.int .i64 t54.1.f0, .int .i64 t54.1.f1]) (by kernel_rfl)) ?_
                      refine WL.tell (op := .load 23 (.tmp 11)) (ty := 23) (d := some 76) (g := none) (by kernel_rfl) (by kernel_rfl) (by kernel_rfl) (Tells.load_box (i := 0) (b := b63) (o := 0) (agg := true) (by rfl) ag23 (by kernel_rfl) (fun h => by cases h) (Nat.le_of_ble_eq_true rfl) (v := .agg #[.int .i64 t59.1.f0, .int .i64 t59.1.f1]) (by kernel_rfl)) ?_
                      refine WL.tell (op := .binOp .neq 23 (.tmp 75) (.tmp 76) 23) (ty := 4) (d := some 77) (g := none) (by kernel_rfl) (by kernel_rfl) (by kernel_rfl) (Tells.neAgg (xs := #[.int .i64 t54.1.f0, .int .i64 t54.1.f1]) (ys := #[.int .i64 t59.1.f0, .int .i64 t59.1.f1]) (ls := [.int t54.1.f0 t59.1.f0, .int t54.1.f1 t59.1.f1]) (by kernel_rfl) (by kernel_rfl) (by kernel_rfl) eg23) ?_
                      refine WL.reput 77 (v := .bool (!([.int t54.1.f0 t59.1.f0, .int t54.1.f1 t59.1.f1].all Lf.ok))) (v' := .bool (!decide (t54.1 = t59.1))) (by kernel_rfl) (by exact (congrArg (fun z => Value.bool (!z)) (eqT23 t54.1 t59.1))) ?_
                      refine WL.pure 3 4 [1, 5, 6, 7, 10, 12, 78] (L' := [(1, .slice Al1 l1.length cl1), (5, .pointer (some ⟨bR16, 0, none⟩)), (6, .pointer (some ⟨b19, 0, none⟩)), (7, .int .i64 y27), (10, .int .i64 t54.2.1), (12, .int .i64 t59.2.1), (78, .bool (!decide (t54.1 = t59.1)))]) (by kernel_rfl) (by decide) ?_
                      refine WL.split 78 (b := (!decide (t54.1 = t59.1))) (by kernel_rfl) (fun hc => ?_) (fun hc => ?_)
                      · replace hc := (nd_true hc)
                        rw [if_pos hc] at h
                        have hc66 := hc
                        clear hc
                        refine WL.rest 4 [1, 5, 6, 7, 83] (L' := [(1, .slice Al1 l1.length cl1), (5, .pointer (some ⟨bR16, 0, none⟩)), (6, .pointer (some ⟨b19, 0, none⟩)), (7, .int .i64 y27), (83, .bool true)]) (by kernel_rfl) ?_
                        refine QP.pick [1, 5, 6, 7, 83] ?_
                        exact QP.meet ⟨_, Option.some.inj h, rfl, rfl, rfl⟩
                      · replace hc := (nd_false hc)
                        rw [if_neg hc] at h
                        have hc66 := hc
                        clear hc
                        refine WL.pure 4 5 [1, 5, 6, 7, 12, 78, 79] (L' := [(1, .slice Al1 l1.length cl1), (5, .pointer (some ⟨bR16, 0, none⟩)), (6, .pointer (some ⟨b19, 0, none⟩)), (7, .int .i64 y27), (12, .int .i64 t59.2.1), (78, .bool false), (79, .int .i64 t54.2.1)]) (by kernel_rfl) (by decide) ?_
                        rw [Option.bind_eq_some_iff] at h
                        obtain ⟨t67, ht68, h⟩ := h
                        refine WL.op (op := .call { callee := (.value (.func 26)), args := #[(.tmp 79)], argTypes := #[41] }) (ty := 3) (d := some 80) (g := some (3, false)) (by kernel_rfl) (by kernel_rfl) (by kernel_rfl) (Does.call (f := 26) (args := [.int .i64 t54.2.1]) (by kernel_rfl) (fun W hI => (grapevinelaw0_Num_calls t54.2.1  t67 ht68 hI))) ?_
                        rintro _ _ _ ⟨rfl, rfl, rfl⟩
                        refine WL.rest 6 [1, 5, 6, 7, 83] (L' := [(1, .slice Al1 l1.length cl1), (5, .pointer (some ⟨bR16, 0, none⟩)), (6, .pointer (some ⟨b19, 0, none⟩)), (7, .int .i64 y27), (83, .bool (t67 != t59.2.1))]) (by kernel_rfl) ?_
                        refine QP.pick [1, 5, 6, 7, 83] ?_
                        exact QP.meet ⟨_, Option.some.inj h, rfl, rfl, rfl⟩
                    · rintro _ _ _ ⟨s64, rfl, rfl, rfl, rfl⟩
                      clear h
                      replace h := hk65
                      refine WP.cond (b := s64) (by kernel_rfl) (fun hc => ?_) (fun hc => ?_)
                      · replace hc := hc
                        rw [if_pos hc] at h
                        have hc71 := hc
                        clear hc
                        refine WP.seqP [4] (L' := [(4, .bool false)]) (by kernel_rfl) ?_
                        refine WP.dropAt 3 ?_
                        refine WP.dropAt 2 ?_
                        refine WP.dropAt 1 ?_
                        refine WP.dropAt 0 ?_
                        refine WP.ret ?_
                        refine QP.thenR ?_
                        refine QP.blockR ?_
                        refine QP.thenR ?_
                        refine QP.thenR ?_
                        refine QP.blockR ?_
                        refine QP.thenR ?_
                        refine QP.thenR ?_
                        obtain rfl := Option.some.inj h
                        obtain rfl := Option.some.inj (show some _ = some _ from hk26)
                        exact QP.returned [4] [.bool false] _ (by kernel_rfl) (by kernel_rfl) (by kernel_rfl) (fun W hI => ⟨_, _, _, rfl, ⟨rfl, rfl, rfl⟩, hI⟩)
                      · replace hc := (Bool.eq_false_iff.1 hc)
                        rw [if_neg hc] at h
                        have hc71 := hc
                        clear hc
                        refine WP.skip ?_
                        refine QP.next ?_
                        refine WP.pick [1, 5, 6, 7] ?_
                        refine WP.seq ?_
                        refine WP.any (N := 7) (S := [⟨some 84, [5], []⟩, ⟨some 85, [84], [0]⟩, ⟨some 86, [6], []⟩, ⟨some 87, [86], [2]⟩, ⟨some 88, [87], [3]⟩, ⟨some 89, [88], [4]⟩, ⟨some 90, [85, 89], [1, 5]⟩]) (kw := 7) (G0 := G) (Γ0 := [(b63, .cells #[.int .i64 t59.1.f0, .int .i64 t59.1.f1] 23 (0, 0))] :: [(b19, .cells #[.int .i64 t59.2.2.f0, .int .i64 t59.2.2.f1] 36 (0, 0))] :: [(b58, .cells #[.int .i64 t54.1.f0, .int .i64 t54.1.f1] 23 (0, 0))] :: [(bR16, .cells #[.int .i64 t54.2.2.f0, .int .i64 t54.2.2.f1] 81 (0, 0))] :: Γ) mo (by kernel_rfl) (fun hS => ?_)
                        refine WA.pure [0, 2, 3, 4] [1, 5, 6, 7, 84, 88] (m := 3) (b' := 29) (L' := [(1, .slice Al1 l1.length cl1), (5, .pointer (some ⟨bR16, 0, none⟩)), (6, .pointer (some ⟨b19, 0, none⟩)), (7, .int .i64 y27), (84, .pointer (some ⟨bR16, 0, none⟩)), (88, .pointer (some ⟨b19, 0, none⟩))]) (by kernel_rfl) (NoPanic.then (NoPanic.block (NoPanic.then (NoPanic.then (NoPanic.block (NoPanic.then (NoPanic.then (NoPanic.body)))))))) Under.refl hS (by kernel_rfl) ?_
                        refine WA.tellD [] (i := 5) (m := 2) (b' := 61) (by kernel_rfl) (NoPanic.then (NoPanic.block (NoPanic.then (NoPanic.then (NoPanic.block (NoPanic.then (NoPanic.then (NoPanic.body)))))))) Under.refl hS (by kernel_rfl) (op := .load 23 (.tmp 88)) (ty := 23) (d := some 89) (g := none) (by kernel_rfl) (by kernel_rfl) (by kernel_rfl) (Tells.load_box (i := 1) (b := b19) (o := 0) (agg := true) (by rfl) ag23 (by kernel_rfl) (fun h => by cases h) (Nat.le_of_ble_eq_true rfl) (v := .agg #[.int .i64 t59.2.2.f0, .int .i64 t59.2.2.f1]) (by kernel_rfl)) ?_
                        refine WA.front (i := 3) rfl ?_
                        rw [Option.bind_eq_some_iff] at h
                        obtain ⟨t72, ht73, h⟩ := h
                        refine WA.op (i := 1) (m := 1) (b' := 63) (by kernel_rfl) hS (by kernel_rfl) (op := .call { callee := (.value (.func 25)), args := #[(.tmp 84)], argTypes := #[30] }) (ty := 23) (d := some 85) (g := none) (by kernel_rfl) (by kernel_rfl) (by kernel_rfl) (Does.call (f := 25) (args := [.pointer (some ⟨bR16, 0, none⟩)]) (by kernel_rfl) (fun W hI => (stamp_Clock_Last_calls t54.2.2 bR16 t72 ht73 hI))) ?_
                        rintro _ _ _ ⟨rfl, rfl, rfl⟩
                        refine ⟨_, _, (Under.trans (Under.front (i := 3) rfl (Under.refl)) (Under.refl)), Under.refl, ?_⟩
                        refine WA.tellD [] (i := 6) (m := 0) (b' := 127) (by kernel_rfl) (NoPanic.then (NoPanic.block (NoPanic.then (NoPanic.then (NoPanic.block (NoPanic.then (NoPanic.then (NoPanic.body)))))))) Under.refl hS (by kernel_rfl) (op := .binOp .neq 23 (.tmp 85) (.tmp 89) 23) (ty := 4) (d := some 90) (g := none) (by kernel_rfl) (by kernel_rfl) (by kernel_rfl) (Tells.neAgg (xs := #[.int .i64 t72.f0, .int .i64 t72.f1]) (ys := #[.int .i64 t59.2.2.f0, .int .i64 t59.2.2.f1]) (ls := [.int t72.f0 t59.2.2.f0, .int t72.f1 t59.2.2.f1]) (by kernel_rfl) (by kernel_rfl) (by kernel_rfl) eg23) ?_
                        refine WA.reput 90 (v := .bool (!([.int t72.f0 t59.2.2.f0, .int t72.f1 t59.2.2.f1].all Lf.ok))) (v' := .bool (!decide (t72 = (⟨t59.2.2.f0, t59.2.2.f1⟩ : T23)))) (by kernel_rfl) (by exact (congrArg (fun z => Value.bool (!z)) (eqT23 t72 (⟨t59.2.2.f0, t59.2.2.f1⟩ : T23)))) ?_
                        refine WA.done hS (by kernel_rfl) ?_
                        refine QP.pick [1, 5, 6, 7, 90] ?_
                        refine QP.next ?_
                        refine WP.dropAt 3 ?_
                        refine WP.dropAt 1 ?_
                        refine WP.cond (b := (!decide (t72 = (⟨t59.2.2.f0, t59.2.2.f1⟩ : T23)))) (by kernel_rfl) (fun hc => ?_) (fun hc => ?_)
                        · replace hc := (nd_true hc)
                          rw [if_pos hc] at h
                          have hc76 := hc
                          clear hc
                          refine WP.seqP [4] (L' := [(4, .bool false)]) (by kernel_rfl) ?_
                          refine WP.dropAt 1 ?_
                          refine WP.dropAt 0 ?_
                          refine WP.ret ?_
                          refine QP.blockR ?_
                          refine QP.thenR ?_
                          refine QP.thenR ?_
                          refine QP.blockR ?_
                          refine QP.thenR ?_
                          refine QP.thenR ?_
                          obtain rfl := Option.some.inj h
                          obtain rfl := Option.some.inj (show some _ = some _ from hk26)
                          exact QP.returned [4] [.bool false] _ (by kernel_rfl) (by kernel_rfl) (by kernel_rfl) (fun W hI => ⟨_, _, _, rfl, ⟨rfl, rfl, rfl⟩, hI⟩)
                        · replace hc := (nd_false hc)
                          rw [if_neg hc] at h
                          have hc76 := hc
                          clear hc
                          refine WP.skip ?_
                          refine QP.blockN ?_
                          refine QP.next ?_
                          refine WP.pick [1, 5, 6, 7] ?_
                          refine WP.regionP [1, 5, 6, 7] (L' := [(1, .slice Al1 l1.length cl1), (5, .pointer (some ⟨bR16, 0, none⟩)), (6, .pointer (some ⟨b19, 0, none⟩)), (7, .int .i64 (IntKind.i64.wrap (y27 + 1)))]) (by kernel_rfl) ?_
                          refine QP.front (i := 1) rfl ?_
                          refine QP.front (i := 1) rfl ?_
                          refine QP.pick [1, 5, 6, 7] ?_
                          exact QP.meet ⟨k31, Nat.lt_succ_self _, (IntKind.i64.wrap (y27 + 1)), t54.2.2, t59.2.2, h, rfl, rfl, rfl⟩
                · replace hc := of_decide_eq_false hc
                  rw [if_neg hc] at h
                  have hc32 := hc
                  clear hc
                  refine WP.exit ?_
                  refine QP.thenE ?_
                  refine QP.thenE ?_
                  refine QP.blockE ?_
                  refine QP.pick [] ?_
                  exact QP.meet ⟨_, Option.some.inj h, rfl, rfl, rfl⟩
            · rintro _ _ _ ⟨s25, rfl, rfl, rfl, rfl⟩
              clear h
              replace h := hk26
              refine QP.next ?_
              refine WP.pick [] ?_
              refine WP.seqR ?_
              rw [Option.bind_eq_some_iff] at h
              obtain ⟨t77, ht78, h⟩ := h
              refine WL.op (op := .call { callee := (.value (.func 17)), args := #[], argTypes := #[] }) (ty := 4) (d := some 91) (g := none) (by kernel_rfl) (by kernel_rfl) (by kernel_rfl) (Does.call (f := 17) (args := []) (by kernel_rfl) (fun W hI => (grapevinelaw2_awake_calls k   t77 ht78 hI))) ?_
              rintro _ _ _ ⟨rfl, rfl, rfl⟩
              refine WL.restQ 1 [4] (L' := [(4, .bool t77)]) (by kernel_rfl) ?_
              refine WP.dropAt 1 ?_
              refine WP.dropAt 0 ?_
              refine WP.ret ?_
              obtain rfl := Option.some.inj h
              exact QP.returned [4] [.bool t77] _ (by kernel_rfl) (by kernel_rfl) (by kernel_rfl) (fun W hI => ⟨_, _, _, rfl, ⟨rfl, rfl, rfl⟩, hI⟩)
      · refine WO.op (b' := 29) (by kernel_rfl) (op := .box 36 (.tmp 25)) (ty := 34) (d := some 26) (g := none) (by kernel_rfl) (by kernel_rfl) (by kernel_rfl) (Does.new (o := .cells #[.int .i64 a0.f0, .int .i64 a0.f1] 36 (0, 0)) (v := fun r => .pointer (some ⟨r, 0, none⟩)) (fun r => by kernel_rfl)) ?_
        rintro _ _ _ ⟨b14, rfl, rfl, rfl⟩
        refine ⟨_, _, Under.cons Under.refl, Under.refl, ?_⟩
        rw [Option.bind_eq_some_iff] at h
        obtain ⟨t15, ht16, h⟩ := h
        refine WA.op (i := 1) (m := 2) (b' := 31) (by kernel_rfl) hS (by kernel_rfl) (op := .call { callee := (.value (.func 24)), args := #[(.tmp 22)], argTypes := #[23] }) (ty := 30) (d := some 23) (g := none) (by kernel_rfl) (by kernel_rfl) (by kernel_rfl) (Does.call (f := 24) (args := [.agg #[.int .i64 a0.f0, .int .i64 a0.f1]]) (by kernel_rfl) (fun W hI => (stamp_New_calls a0  t15 ht16 hI))) ?_
        rintro _ _ _ (⟨hx, rfl, rfl, rfl⟩ | ⟨x18, hx, bR17, rfl, rfl, rfl⟩)
        · rw [hx] at h
          rw [Option.elim_none] at h
          clear hx
          refine ⟨_, _, Under.refl, Under.refl, ?_⟩
          refine WA.pure [5, 6] [1, 2, 5, 6] (m := 0) (b' := 127) (L' := [(1, .slice Al1 l1.length cl1), (2, .pointer (some ⟨b1, 0, none⟩)), (5, .pointer none), (6, .pointer (some ⟨b14, 0, none⟩))]) (by kernel_rfl) (NoPanic.then (NoPanic.body)) Under.refl hS (by kernel_rfl) ?_
          refine WA.done hS (by kernel_rfl) ?_
          refine QP.pick [1, 2, 5, 6] ?_
          refine QP.next ?_
          refine WP.seq ?_
          refine WP.seq ?_
          refine WP.any (N := 8) (S := [⟨some 27, [5], []⟩, ⟨some 28, [27], [0]⟩, ⟨some 29, [28], [1]⟩, ⟨some 30, [5, 29], [2]⟩, ⟨some 31, [29, 30], [2, 3]⟩, ⟨some 32, [2, 29], [2]⟩, ⟨some 33, [29, 31, 32], [2, 4, 5]⟩, ⟨some 34, [29, 33], [2, 6]⟩]) (kw := 8) (G0 := G) (Γ0 := [(b14, .cells #[.int .i64 a0.f0, .int .i64 a0.f1] 36 (0, 0))] :: [(b1, .cells #[.int .i64 a0.f0, .int .i64 a0.f1] 23 (0, 0))] :: Γ) mo (by kernel_rfl) (fun hS => ?_)
          refine WA.pure [0, 1, 2, 3, 4, 5, 6, 7] [1, 5, 6, 34] (m := 0) (b' := 255) (L' := [(1, .slice Al1 l1.length cl1), (5, .pointer none), (6, .pointer (some ⟨b14, 0, none⟩)), (34, .bool true)]) (by kernel_rfl) (NoPanic.then (NoPanic.then (NoPanic.body))) Under.refl hS (by kernel_rfl) ?_
          refine WA.done hS (by kernel_rfl) ?_
          refine QP.pick [1, 5, 6, 34] ?_
          refine QP.next ?_
          refine WP.dropAt 1 ?_
          refine WP.yes (by kernel_rfl) ?_
          refine WP.seqP [4] (L' := [(4, .bool false)]) (by kernel_rfl) ?_
          refine WP.dropAt 0 ?_
          refine WP.ret ?_
          refine QP.thenR ?_
          obtain rfl := Option.some.inj h
          exact QP.returned [4] [.bool false] _ (by kernel_rfl) (by kernel_rfl) (by kernel_rfl) (fun W hI => ⟨_, _, _, rfl, ⟨rfl, rfl, rfl⟩, hI⟩)
        · rw [hx] at h
          rw [Option.elim_some] at h
          clear hx
          refine ⟨_, _, Under.cons (Under.refl), Under.refl, ?_⟩
          refine WA.pure [5, 6] [1, 2, 5, 6] (m := 0) (b' := 127) (L' := [(1, .slice Al1 l1.length cl1), (2, .pointer (some ⟨b1, 0, none⟩)), (5, .pointer (some ⟨bR17, 0, none⟩)), (6, .pointer (some ⟨b14, 0, none⟩))]) (by kernel_rfl) (NoPanic.then (NoPanic.body)) Under.refl hS (by kernel_rfl) ?_
          refine WA.done hS (by kernel_rfl) ?_
          refine QP.pick [1, 2, 5, 6] ?_
          refine QP.next ?_
          refine WP.seq ?_
          refine WP.seq ?_
          refine WP.any (N := 8) (S := [⟨some 27, [5], []⟩, ⟨some 28, [27], [0]⟩, ⟨some 29, [28], [1]⟩, ⟨some 30, [5, 29], [2]⟩, ⟨some 31, [29, 30], [2, 3]⟩, ⟨some 32, [2, 29], [2]⟩, ⟨some 33, [29, 31, 32], [2, 4, 5]⟩, ⟨some 34, [29, 33], [2, 6]⟩]) (kw := 8) (G0 := G) (Γ0 := [(bR17, .cells #[.int .i64 x18.f0, .int .i64 x18.f1] 81 (0, 0))] :: [(b14, .cells #[.int .i64 a0.f0, .int .i64 a0.f1] 36 (0, 0))] :: [(b1, .cells #[.int .i64 a0.f0, .int .i64 a0.f1] 23 (0, 0))] :: Γ) mo (by kernel_rfl) (fun hS => ?_)
          refine WA.pure [0, 1, 2, 3] [1, 2, 5, 6, 29, 30] (m := 4) (b' := 15) (L' := [(1, .slice Al1 l1.length cl1), (2, .pointer (some ⟨b1, 0, none⟩)), (5, .pointer (some ⟨bR17, 0, none⟩)), (6, .pointer (some ⟨b14, 0, none⟩)), (29, .bool false), (30, .pointer (some ⟨bR17, 0, none⟩))]) (by kernel_rfl) (NoPanic.then (NoPanic.then (NoPanic.body))) Under.refl hS (by kernel_rfl) ?_
          refine WA.tellD [] (i := 5) (m := 3) (b' := 47) (by kernel_rfl) (NoPanic.then (NoPanic.then (NoPanic.body))) Under.refl hS (by kernel_rfl) (op := .load 23 (.tmp 2)) (ty := 23) (d := some 32) (g := some (2, false)) (by kernel_rfl) (by kernel_rfl) (by kernel_rfl) (Tells.load_box (i := 2) (b := b1) (o := 0) (agg := true) (by rfl) ag23 (by kernel_rfl) (fun h => by cases h) (Nat.le_of_ble_eq_true rfl) (v := .agg #[.int .i64 a0.f0, .int .i64 a0.f1]) (by kernel_rfl)) ?_
          rw [Option.bind_eq_some_iff] at h
          obtain ⟨t19, ht20, h⟩ := h
          refine WA.op (i := 4) (m := 2) (b' := 63) (by kernel_rfl) hS (by kernel_rfl) (op := .call { callee := (.value (.func 25)), args := #[(.tmp 30)], argTypes := #[30] }) (ty := 23) (d := some 31) (g := some (2, false)) (by kernel_rfl) (by kernel_rfl) (by kernel_rfl) (Does.call (f := 25) (args := [.pointer (some ⟨bR17, 0, none⟩)]) (by kernel_rfl) (fun W hI => (stamp_Clock_Last_calls x18 bR17 t19 ht20 hI))) ?_
          rintro _ _ _ ⟨rfl, rfl, rfl⟩
          refine ⟨_, _, Under.refl, Under.refl, ?_⟩
          refine WA.tellD [] (i := 6) (m := 1) (b' := 127) (by kernel_rfl) (NoPanic.then (NoPanic.then (NoPanic.body))) Under.refl hS (by kernel_rfl) (op := .binOp .neq 23 (.tmp 31) (.tmp 32) 23) (ty := 4) (d := some 33) (g := some (2, false)) (by kernel_rfl) (by kernel_rfl) (by kernel_rfl) (Tells.neAgg (xs := #[.int .i64 t19.f0, .int .i64 t19.f1]) (ys := #[.int .i64 a0.f0, .int .i64 a0.f1]) (ls := [.int t19.f0 a0.f0, .int t19.f1 a0.f1]) (by kernel_rfl) (by kernel_rfl) (by kernel_rfl) eg23) ?_
          refine WA.reput 33 (v := .bool (!([.int t19.f0 a0.f0, .int t19.f1 a0.f1].all Lf.ok))) (v' := .bool (!decide (t19 = a0))) (by kernel_rfl) (by exact (congrArg (fun z => Value.bool (!z)) (eqT23 t19 a0))) ?_
          refine WA.pure [7] [1, 5, 6, 34] (m := 0) (b' := 255) (L' := [(1, .slice Al1 l1.length cl1), (5, .pointer (some ⟨bR17, 0, none⟩)), (6, .pointer (some ⟨b14, 0, none⟩)), (34, .bool (!decide (t19 = a0)))]) (by kernel_rfl) (NoPanic.then (NoPanic.then (NoPanic.body))) Under.refl hS (by kernel_rfl) ?_
          refine WA.done hS (by kernel_rfl) ?_
          refine QP.pick [1, 5, 6, 34] ?_
          refine QP.next ?_
          refine WP.dropAt 2 ?_
          refine WP.cond (b := (!decide (t19 = a0))) (by kernel_rfl) (fun hc => ?_) (fun hc => ?_)
          · replace hc := (nd_true hc)
            rw [if_pos hc] at h
            have hc23 := hc
            clear hc
            refine WP.seqP [4] (L' := [(4, .bool false)]) (by kernel_rfl) ?_
            refine WP.dropAt 1 ?_
            refine WP.dropAt 0 ?_
            refine WP.ret ?_
            refine QP.thenR ?_
            obtain rfl := Option.some.inj h
            exact QP.returned [4] [.bool false] _ (by kernel_rfl) (by kernel_rfl) (by kernel_rfl) (fun W hI => ⟨_, _, _, rfl, ⟨rfl, rfl, rfl⟩, hI⟩)
          · replace hc := (nd_false hc)
            rw [if_neg hc] at h
            have hc23 := hc
            clear hc
            refine WP.skip ?_
            refine QP.next ?_
            refine WP.pick [1, 5, 6] ?_
            refine WP.seq ?_
            refine WP.seqP [1, 5, 6, 7] (L' := [(1, .slice Al1 l1.length cl1), (5, .pointer (some ⟨bR17, 0, none⟩)), (6, .pointer (some ⟨b14, 0, none⟩)), (7, .int .i64 0)]) (by kernel_rfl) ?_
            rw [Option.bind_eq_some_iff] at h
            obtain ⟨os24, h, hk25⟩ := h
            refine WP.cutQ (fun L' G' Γ' => ∃ s24 : T81 × T36, Sum.inr s24 = os24 ∧ L' = [] ∧ G = G' ∧ [(bR17, .cells #[.int .i64 s24.1.f0, .int .i64 s24.1.f1] 81 (0, 0))] :: [(b14, .cells #[.int .i64 s24.2.f0, .int .i64 s24.2.f1] 36 (0, 0))] :: Γ = Γ') ?_ ?_
            · skip
              refine WP.block ?_
              refine WP.pick [1, 5, 6, 7] ?_
              refine WP.loopF (fun k29 L' G' Γ' => ∃ (y26 : Int), ∃ (y27 : T81), ∃ (y28 : T36), grapevinelaw2_StampScript_l0 l1 k29 y26 y27 y28 = some os24 ∧ L' = [(1, .slice Al1 l1.length cl1), (5, .pointer (some ⟨bR17, 0, none⟩)), (6, .pointer (some ⟨b14, 0, none⟩)), (7, .int .i64 y26)] ∧ G = G' ∧ [(bR17, .cells #[.int .i64 y27.f0, .int .i64 y27.f1] 81 (0, 0))] :: [(b14, .cells #[.int .i64 y28.f0, .int .i64 y28.f1] 36 (0, 0))] :: Γ = Γ') ?_ k ⟨0, x18, (⟨a0.f0, a0.f1⟩ : T36), h, rfl, rfl, rfl⟩
              clear h
              rintro k30 _ _ _ ⟨y26, y27, y28, h, rfl, rfl, rfl⟩
              cases k30 with
              | zero => exact absurd h (by simp [grapevinelaw2_StampScript_l0])
              | succ k30 =>
                simp only [grapevinelaw2_StampScript_l0] at h
                refine WP.seq ?_
                refine WP.seqP [1, 5, 6, 7, 38] (L' := [(1, .slice Al1 l1.length cl1), (5, .pointer (some ⟨bR17, 0, none⟩)), (6, .pointer (some ⟨b14, 0, none⟩)), (7, .int .i64 y26), (38, .bool (decide (y26 < (l1.length : Int))))]) (by kernel_rfl) ?_
                refine WP.cond (b := decide (y26 < (l1.length : Int))) (by kernel_rfl) (fun hc => ?_) (fun hc => ?_)
                · replace hc := of_decide_eq_true hc
                  rw [if_pos hc] at h
                  have hc31 := hc
                  clear hc
                  refine WP.skip ?_
                  refine QP.next ?_
                  refine WP.pick [1, 5, 6, 7] ?_
                  refine WP.seq ?_
                  refine WP.block ?_
                  refine WP.seqR ?_
                  refine WL.pure 0 2 [1, 5, 6, 7, 41, 42] (L' := [(1, .slice Al1 l1.length cl1), (5, .pointer (some ⟨bR17, 0, none⟩)), (6, .pointer (some ⟨b14, 0, none⟩)), (7, .int .i64 y26), (41, .slice Al1 l1.length cl1), (42, .int .i64 y26)]) (by kernel_rfl) (by decide) ?_
                  by_cases hb32 : 0 ≤ y26 ∧ y26 < (l1.length : Int)
                  case neg => rw [if_neg hb32] at h; cases h
                  rw [if_pos hb32] at h
                  refine WL.tell (op := .indexAddr 33 (.tmp 41) (.tmp 42)) (ty := 0) (d := some 43) (g := none) (by kernel_rfl) (by kernel_rfl) (by kernel_rfl) (Tells.indexAddr (A := Al1) (n := l1.length) (c := cl1) (k := .i64) (j := y26) (by kernel_rfl) (by kernel_rfl) (Hl1.isSome hb32.1 hb32.2) hb32.1 hb32.2 sl33) ?_
                  refine WL.tellE (op := .load 39 (.tmp 43)) (ty := 39) (d := some 44) (g := none) (by kernel_rfl) (by kernel_rfl) (by kernel_rfl) (Hl1.load (agg := true) hb32.1 hb32.2 z39 ag39 (fun h => by cases h) (by kernel_rfl)) ?_
                  rintro _ rfl
                  refine WL.op (op := .alloc 39) (ty := 0) (d := some 8) (g := none) (by kernel_rfl) (by kernel_rfl) (by kernel_rfl) (Does.new (o := .cells #[.bool false, .int .i64 0, .int .i64 0, .int .i64 0] 39 (0, 0)) (v := fun r => .pointer (some ⟨r, 0, none⟩)) (fun r => by kernel_rfl)) ?_
                  rintro _ _ _ ⟨b33, rfl, rfl, rfl⟩
                  refine WL.op (op := .store 39 (.tmp 8) (.tmp 44)) (ty := 0) (d := none) (g := none) (by kernel_rfl) (by kernel_rfl) (by kernel_rfl) (Does.store_box (i := 0) (b := b33) (o := 0) (v := .agg #[.bool ((l1.getD y26.toNat z39).f0), .int .i64 ((l1.getD y26.toNat z39).f1), .int .i64 ((l1.getD y26.toNat z39).f2), .int .i64 ((l1.getD y26.toNat z39).f3)]) (by rfl) sz39 (by kernel_rfl) (by kernel_rfl) (by kernel_rfl) (Free.zero _) (Nat.le_of_ble_eq_true rfl) (cells' := #[.bool ((l1.getD y26.toNat z39).f0), .int .i64 ((l1.getD y26.toNat z39).f1), .int .i64 ((l1.getD y26.toNat z39).f2), .int .i64 ((l1.getD y26.toNat z39).f3)]) (by kernel_rfl)) ?_
                  rintro _ _ _ ⟨rfl, rfl, rfl⟩
                  refine WL.restQ 6 [1, 5, 6, 7, 8] (L' := [(1, .slice Al1 l1.length cl1), (5, .pointer (some ⟨bR17, 0, none⟩)), (6, .pointer (some ⟨b14, 0, none⟩)), (7, .int .i64 y26), (8, .pointer (some ⟨b33, 0, none⟩))]) (by kernel_rfl) ?_
                  refine WP.seq ?_
                  refine WP.seqR ?_
                  refine WL.pure 0 1 [1, 5, 6, 7, 8, 45] (L' := [(1, .slice Al1 l1.length cl1), (5, .pointer (some ⟨bR17, 0, none⟩)), (6, .pointer (some ⟨b14, 0, none⟩)), (7, .int .i64 y26), (8, .pointer (some ⟨b33, 0, none⟩)), (45, .pointer (some ⟨b33, 0, none⟩))]) (by kernel_rfl) (by decide) ?_
                  refine WL.tell (op := .load 4 (.tmp 45)) (ty := 4) (d := some 46) (g := none) (by kernel_rfl) (by kernel_rfl) (by kernel_rfl) (Tells.load_box (i := 0) (b := b33) (o := 0) (agg := false) (by rfl) ag4 (by kernel_rfl) (fun _ => rfl) (Nat.le_of_ble_eq_true rfl) (v := .bool ((l1.getD y26.toNat z39).f0)) (by kernel_rfl)) ?_
                  refine WL.restQ 2 [1, 5, 6, 7, 8, 46] (L' := [(1, .slice Al1 l1.length cl1), (5, .pointer (some ⟨bR17, 0, none⟩)), (6, .pointer (some ⟨b14, 0, none⟩)), (7, .int .i64 y26), (8, .pointer (some ⟨b33, 0, none⟩)), (46, .bool ((l1.getD y26.toNat z39).f0))]) (by kernel_rfl) ?_
                  refine WP.cond (b := (l1.getD y26.toNat z39).f0) (by kernel_rfl) (fun hc => ?_) (fun hc => ?_)
                  · replace hc := hc
                    rw [if_pos hc] at h
                    have hc34 := hc
                    clear hc
                    refine WP.seq ?_
                    refine WP.any (N := 14) (S := [⟨some 47, [5], []⟩, ⟨some 48, [8], []⟩, ⟨some 49, [48], [1]⟩, ⟨some 50, [8], []⟩, ⟨some 51, [50], [3]⟩, ⟨some 52, [47, 49, 51], [0, 2, 4]⟩, ⟨some 53, [52], [5]⟩, ⟨some 54, [6], []⟩, ⟨some 55, [8], []⟩, ⟨some 56, [55], [8]⟩, ⟨some 57, [8], []⟩, ⟨some 58, [57], [10]⟩, ⟨some 59, [54, 56, 58], [6, 7, 9, 11]⟩, ⟨some 60, [53, 59], [6, 12]⟩]) (kw := 14) (G0 := G) (Γ0 := [[(b33, .cells #[.bool ((l1.getD y26.toNat z39).f0), .int .i64 ((l1.getD y26.toNat z39).f1), .int .i64 ((l1.getD y26.toNat z39).f2), .int .i64 ((l1.getD y26.toNat z39).f3)] 39 (0, 0))]]) mo (by kernel_rfl) (fun hS => ?_)
                    refine WA.pure [0, 1, 3, 7, 8, 10] [1, 5, 6, 7, 47, 48, 50, 54, 55, 57] (m := 8) (b' := 1419) (L' := [(1, .slice Al1 l1.length cl1), (5, .pointer (some ⟨bR17, 0, none⟩)), (6, .pointer (some ⟨b14, 0, none⟩)), (7, .int .i64 y26), (47, .pointer (some ⟨bR17, 0, none⟩)), (48, .pointer (some ⟨b33, 1, none⟩)), (50, .pointer (some ⟨b33, 3, none⟩)), (54, .pointer (some ⟨b14, 0, none⟩)), (55, .pointer (some ⟨b33, 1, none⟩)), (57, .pointer (some ⟨b33, 3, none⟩))]) (by kernel_rfl) (NoPanic.then (NoPanic.then (NoPanic.block (NoPanic.then (NoPanic.then (NoPanic.block (NoPanic.then (NoPanic.then (NoPanic.body))))))))) (Under.mem (C := [(b33, .cells #[.bool ((l1.getD y26.toNat z39).f0), .int .i64 ((l1.getD y26.toNat z39).f1), .int .i64 ((l1.getD y26.toNat z39).f2), .int .i64 ((l1.getD y26.toNat z39).f3)] 39 (0, 0))]) (by repeat first | exact List.Mem.head _ | apply List.Mem.tail)) hS (by kernel_rfl) ?_
                    refine WA.tellD [] (i := 2) (m := 7) (b' := 1423) (by kernel_rfl) (NoPanic.then (NoPanic.then (NoPanic.block (NoPanic.then (NoPanic.then (NoPanic.block (NoPanic.then (NoPanic.then (NoPanic.body))))))))) (Under.mem (C := [(b33, .cells #[.bool ((l1.getD y26.toNat z39).f0), .int .i64 ((l1.getD y26.toNat z39).f1), .int .i64 ((l1.getD y26.toNat z39).f2), .int .i64 ((l1.getD y26.toNat z39).f3)] 39 (0, 0))]) (by repeat first | exact List.Mem.head _ | apply List.Mem.tail)) hS (by kernel_rfl) (op := .load 23 (.tmp 48)) (ty := 23) (d := some 49) (g := none) (by kernel_rfl) (by kernel_rfl) (by kernel_rfl) (Tells.load_box (i := 0) (b := b33) (o := 1) (agg := true) (by rfl) ag23 (by kernel_rfl) (fun h => by cases h) (Nat.le_of_ble_eq_true rfl) (v := .agg #[.int .i64 ((l1.getD y26.toNat z39).f1), .int .i64 ((l1.getD y26.toNat z39).f2)]) (by kernel_rfl)) ?_
                    refine WA.tellD [] (i := 4) (m := 6) (b' := 1439) (by kernel_rfl) (NoPanic.then (NoPanic.then (NoPanic.block (NoPanic.then (NoPanic.then (NoPanic.block (NoPanic.then (NoPanic.then (NoPanic.body))))))))) (Under.mem (C := [(b33, .cells #[.bool ((l1.getD y26.toNat z39).f0), .int .i64 ((l1.getD y26.toNat z39).f1), .int .i64 ((l1.getD y26.toNat z39).f2), .int .i64 ((l1.getD y26.toNat z39).f3)] 39 (0, 0))]) (by repeat first | exact List.Mem.head _ | apply List.Mem.tail)) hS (by kernel_rfl) (op := .load 3 (.tmp 50)) (ty := 3) (d := some 51) (g := none) (by kernel_rfl) (by kernel_rfl) (by kernel_rfl) (Tells.load_box (i := 0) (b := b33) (o := 3) (agg := false) (by rfl) ag3 (by kernel_rfl) (fun _ => rfl) (Nat.le_of_ble_eq_true rfl) (v := .int .i64 ((l1.getD y26.toNat z39).f3)) (by kernel_rfl)) ?_
                    refine WA.tellD [] (i := 9) (m := 5) (b' := 1951) (by kernel_rfl) (NoPanic.then (NoPanic.then (NoPanic.block (NoPanic.then (NoPanic.then (NoPanic.block (NoPanic.then (NoPanic.then (NoPanic.body))))))))) (Under.mem (C := [(b33, .cells #[.bool ((l1.getD y26.toNat z39).f0), .int .i64 ((l1.getD y26.toNat z39).f1), .int .i64 ((l1.getD y26.toNat z39).f2), .int .i64 ((l1.getD y26.toNat z39).f3)] 39 (0, 0))]) (by repeat first | exact List.Mem.head _ | apply List.Mem.tail)) hS (by kernel_rfl) (op := .load 23 (.tmp 55)) (ty := 23) (d := some 56) (g := none) (by kernel_rfl) (by kernel_rfl) (by kernel_rfl) (Tells.load_box (i := 0) (b := b33) (o := 1) (agg := true) (by rfl) ag23 (by kernel_rfl) (fun h => by cases h) (Nat.le_of_ble_eq_true rfl) (v := .agg #[.int .i64 ((l1.getD y26.toNat z39).f1), .int .i64 ((l1.getD y26.toNat z39).f2)]) (by kernel_rfl)) ?_
                    refine WA.tellD [] (i := 11) (m := 4) (b' := 3999) (by kernel_rfl) (NoPanic.then (NoPanic.then (NoPanic.block (NoPanic.then (NoPanic.then (NoPanic.block (NoPanic.then (NoPanic.then (NoPanic.body))))))))) (Under.mem (C := [(b33, .cells #[.bool ((l1.getD y26.toNat z39).f0), .int .i64 ((l1.getD y26.toNat z39).f1), .int .i64 ((l1.getD y26.toNat z39).f2), .int .i64 ((l1.getD y26.toNat z39).f3)] 39 (0, 0))]) (by repeat first | exact List.Mem.head _ | apply List.Mem.tail)) hS (by kernel_rfl) (op := .load 3 (.tmp 57)) (ty := 3) (d := some 58) (g := none) (by kernel_rfl) (by kernel_rfl) (by kernel_rfl) (Tells.load_box (i := 0) (b := b33) (o := 3) (agg := false) (by rfl) ag3 (by kernel_rfl) (fun _ => rfl) (Nat.le_of_ble_eq_true rfl) (v := .int .i64 ((l1.getD y26.toNat z39).f3)) (by kernel_rfl)) ?_
                    refine WA.front (i := 1) rfl ?_
                    rw [Option.bind_eq_some_iff] at h
                    obtain ⟨t35, ht36, h⟩ := h
                    refine WA.op (i := 5) (m := 3) (b' := 4031) (by kernel_rfl) hS (by kernel_rfl) (op := .call { callee := (.value (.func 27)), args := #[(.tmp 47), (.tmp 49), (.tmp 51)], argTypes := #[30, 23, 3] }) (ty := 41) (d := some 52) (g := none) (by kernel_rfl) (by kernel_rfl) (by kernel_rfl) (Does.call (f := 27) (args := [.pointer (some ⟨bR17, 0, none⟩), .agg #[.int .i64 ((l1.getD y26.toNat z39).f1), .int .i64 ((l1.getD y26.toNat z39).f2)], .int .i64 ((l1.getD y26.toNat z39).f3)]) (by kernel_rfl) (fun W hI => (stamp_Clock_See_calls k30 y27 (⟨(l1.getD y26.toNat z39).f1, (l1.getD y26.toNat z39).f2⟩ : T23) ((l1.getD y26.toNat z39).f3) bR17 t35 ht36 hI))) ?_
                    rintro _ _ _ ⟨rfl, rfl, rfl⟩
                    refine ⟨_, _, Under.refl, (Under.mem (C := [(b33, .cells #[.bool ((l1.getD y26.toNat z39).f0), .int .i64 ((l1.getD y26.toNat z39).f1), .int .i64 ((l1.getD y26.toNat z39).f2), .int .i64 ((l1.getD y26.toNat z39).f3)] 39 (0, 0))]) (by repeat first | exact List.Mem.head _ | apply List.Mem.tail)), ?_⟩
                    rw [Option.bind_eq_some_iff] at h
                    obtain ⟨t39, ht40, h⟩ := h
                    refine WA.op (i := 6) (m := 2) (b' := 4095) (by kernel_rfl) hS (by kernel_rfl) (op := .call { callee := (.value (.func 26)), args := #[(.tmp 52)], argTypes := #[41] }) (ty := 3) (d := some 53) (g := none) (by kernel_rfl) (by kernel_rfl) (by kernel_rfl) (Does.call (f := 26) (args := [.int .i64 t35.1]) (by kernel_rfl) (fun W hI => (grapevinelaw0_Num_calls t35.1  t39 ht40 hI))) ?_
                    rintro _ _ _ ⟨rfl, rfl, rfl⟩
                    refine ⟨_, _, Under.refl, (Under.mem (C := [(b33, .cells #[.bool ((l1.getD y26.toNat z39).f0), .int .i64 ((l1.getD y26.toNat z39).f1), .int .i64 ((l1.getD y26.toNat z39).f2), .int .i64 ((l1.getD y26.toNat z39).f3)] 39 (0, 0))]) (by repeat first | exact List.Mem.head _ | apply List.Mem.tail)), ?_⟩
                    refine WA.front (i := 2) rfl ?_
                    rw [Option.bind_eq_some_iff] at h
                    obtain ⟨t43, ht44, h⟩ := h
                    refine WA.op (i := 12) (m := 1) (b' := 8191) (by kernel_rfl) hS (by kernel_rfl) (op := .call { callee := (.value (.func 28)), args := #[(.tmp 54), (.tmp 56), (.tmp 58)], argTypes := #[34, 23, 3] }) (ty := 3) (d := some 59) (g := none) (by kernel_rfl) (by kernel_rfl) (by kernel_rfl) (Does.call (f := 28) (args := [.pointer (some ⟨b14, 0, none⟩), .agg #[.int .i64 ((l1.getD y26.toNat z39).f1), .int .i64 ((l1.getD y26.toNat z39).f2)], .int .i64 ((l1.getD y26.toNat z39).f3)]) (by kernel_rfl) (fun W hI => (grapevineref2_Clock_See_calls y28 (⟨(l1.getD y26.toNat z39).f1, (l1.getD y26.toNat z39).f2⟩ : T23) ((l1.getD y26.toNat z39).f3) b14 t43 ht44 hI))) ?_
                    rintro _ _ _ ⟨rfl, rfl, rfl⟩
                    refine ⟨_, _, Under.refl, (Under.mem (C := [(b33, .cells #[.bool ((l1.getD y26.toNat z39).f0), .int .i64 ((l1.getD y26.toNat z39).f1), .int .i64 ((l1.getD y26.toNat z39).f2), .int .i64 ((l1.getD y26.toNat z39).f3)] 39 (0, 0))]) (by repeat first | exact List.Mem.head _ | apply List.Mem.tail)), ?_⟩
                    refine WA.pure [13] [1, 5, 6, 7, 60] (m := 0) (b' := 16383) (L' := [(1, .slice Al1 l1.length cl1), (5, .pointer (some ⟨bR17, 0, none⟩)), (6, .pointer (some ⟨b14, 0, none⟩)), (7, .int .i64 y26), (60, .bool (t39 != t43.1))]) (by kernel_rfl) (NoPanic.then (NoPanic.then (NoPanic.block (NoPanic.then (NoPanic.then (NoPanic.block (NoPanic.then (NoPanic.then (NoPanic.body))))))))) (Under.mem (C := [(b33, .cells #[.bool ((l1.getD y26.toNat z39).f0), .int .i64 ((l1.getD y26.toNat z39).f1), .int .i64 ((l1.getD y26.toNat z39).f2), .int .i64 ((l1.getD y26.toNat z39).f3)] 39 (0, 0))]) (by repeat first | exact List.Mem.head _ | apply List.Mem.tail)) hS (by kernel_rfl) ?_
                    refine WA.done hS (by kernel_rfl) ?_
                    refine QP.pick [1, 5, 6, 7, 60] ?_
                    refine QP.next ?_
                    refine WP.dropAt 2 ?_
                    refine WP.cond (b := (t39 != t43.1)) (by kernel_rfl) (fun hc => ?_) (fun hc => ?_)
                    · replace hc := (bne_iff_ne.1 hc)
                      rw [if_pos hc] at h
                      have hc47 := hc
                      clear hc
                      refine WP.seqP [4] (L' := [(4, .bool false)]) (by kernel_rfl) ?_
                      refine WP.dropAt 1 ?_
                      refine WP.dropAt 0 ?_
                      refine WP.ret ?_
                      refine QP.thenR ?_
                      refine QP.blockR ?_
                      refine QP.thenR ?_
                      refine QP.thenR ?_
                      refine QP.blockR ?_
                      refine QP.thenR ?_
                      refine QP.thenR ?_
                      obtain rfl := Option.some.inj h
                      obtain rfl := Option.some.inj (show some _ = some _ from hk25)
                      exact QP.returned [4] [.bool false] _ (by kernel_rfl) (by kernel_rfl) (by kernel_rfl) (fun W hI => ⟨_, _, _, rfl, ⟨rfl, rfl, rfl⟩, hI⟩)
                    · replace hc := (not_not_intro (bne_eq_false_iff_eq.1 hc))
                      rw [if_neg hc] at h
                      have hc47 := hc
                      clear hc
                      refine WP.skip ?_
                      refine QP.next ?_
                      refine WP.pick [1, 5, 6, 7] ?_
                      refine WP.seq ?_
                      refine WP.any (N := 7) (S := [⟨some 84, [5], []⟩, ⟨some 85, [84], [0]⟩, ⟨some 86, [6], []⟩, ⟨some 87, [86], [2]⟩, ⟨some 88, [87], [3]⟩, ⟨some 89, [88], [4]⟩, ⟨some 90, [85, 89], [1, 5]⟩]) (kw := 7) (G0 := G) (Γ0 := [(b14, .cells #[.int .i64 t43.2.f0, .int .i64 t43.2.f1] 36 (0, 0))] :: [(bR17, .cells #[.int .i64 t35.2.f0, .int .i64 t35.2.f1] 81 (0, 0))] :: Γ) mo (by kernel_rfl) (fun hS => ?_)
                      refine WA.pure [0, 2, 3, 4] [1, 5, 6, 7, 84, 88] (m := 3) (b' := 29) (L' := [(1, .slice Al1 l1.length cl1), (5, .pointer (some ⟨bR17, 0, none⟩)), (6, .pointer (some ⟨b14, 0, none⟩)), (7, .int .i64 y26), (84, .pointer (some ⟨bR17, 0, none⟩)), (88, .pointer (some ⟨b14, 0, none⟩))]) (by kernel_rfl) (NoPanic.then (NoPanic.block (NoPanic.then (NoPanic.then (NoPanic.block (NoPanic.then (NoPanic.then (NoPanic.body)))))))) Under.refl hS (by kernel_rfl) ?_
                      refine WA.tellD [] (i := 5) (m := 2) (b' := 61) (by kernel_rfl) (NoPanic.then (NoPanic.block (NoPanic.then (NoPanic.then (NoPanic.block (NoPanic.then (NoPanic.then (NoPanic.body)))))))) Under.refl hS (by kernel_rfl) (op := .load 23 (.tmp 88)) (ty := 23) (d := some 89) (g := none) (by kernel_rfl) (by kernel_rfl) (by kernel_rfl) (Tells.load_box (i := 0) (b := b14) (o := 0) (agg := true) (by rfl) ag23 (by kernel_rfl) (fun h => by cases h) (Nat.le_of_ble_eq_true rfl) (v := .agg #[.int .i64 t43.2.f0, .int .i64 t43.2.f1]) (by kernel_rfl)) ?_
                      refine WA.front (i := 1) rfl ?_
                      rw [Option.bind_eq_some_iff] at h
                      obtain ⟨t48, ht49, h⟩ := h
                      refine WA.op (i := 1) (m := 1) (b' := 63) (by kernel_rfl) hS (by kernel_rfl) (op := .call { callee := (.value (.func 25)), args := #[(.tmp 84)], argTypes := #[30] }) (ty := 23) (d := some 85) (g := none) (by kernel_rfl) (by kernel_rfl) (by kernel_rfl) (Does.call (f := 25) (args := [.pointer (some ⟨bR17, 0, none⟩)]) (by kernel_rfl) (fun W hI => (stamp_Clock_Last_calls t35.2 bR17 t48 ht49 hI))) ?_
                      rintro _ _ _ ⟨rfl, rfl, rfl⟩
                      refine ⟨_, _, (Under.trans (Under.front (i := 1) rfl (Under.refl)) (Under.refl)), Under.refl, ?_⟩
                      refine WA.tellD [] (i := 6) (m := 0) (b' := 127) (by kernel_rfl) (NoPanic.then (NoPanic.block (NoPanic.then (NoPanic.then (NoPanic.block (NoPanic.then (NoPanic.then (NoPanic.body)))))))) Under.refl hS (by kernel_rfl) (op := .binOp .neq 23 (.tmp 85) (.tmp 89) 23) (ty := 4) (d := some 90) (g := none) (by kernel_rfl) (by kernel_rfl) (by kernel_rfl) (Tells.neAgg (xs := #[.int .i64 t48.f0, .int .i64 t48.f1]) (ys := #[.int .i64 t43.2.f0, .int .i64 t43.2.f1]) (ls := [.int t48.f0 t43.2.f0, .int t48.f1 t43.2.f1]) (by kernel_rfl) (by kernel_rfl) (by kernel_rfl) eg23) ?_
                      refine WA.reput 90 (v := .bool (!([.int t48.f0 t43.2.f0, .int t48.f1 t43.2.f1].all Lf.ok))) (v' := .bool (!decide (t48 = (⟨t43.2.f0, t43.2.f1⟩ : T23)))) (by kernel_rfl) (by exact (congrArg (fun z => Value.bool (!z)) (eqT23 t48 (⟨t43.2.f0, t43.2.f1⟩ : T23)))) ?_
                      refine WA.done hS (by kernel_rfl) ?_
                      refine QP.pick [1, 5, 6, 7, 90] ?_
                      refine QP.next ?_
                      refine WP.cond (b := (!decide (t48 = (⟨t43.2.f0, t43.2.f1⟩ : T23)))) (by kernel_rfl) (fun hc => ?_) (fun hc => ?_)
                      · replace hc := (nd_true hc)
                        rw [if_pos hc] at h
                        have hc52 := hc
                        clear hc
                        refine WP.seqP [4] (L' := [(4, .bool false)]) (by kernel_rfl) ?_
                        refine WP.dropAt 1 ?_
                        refine WP.dropAt 0 ?_
                        refine WP.ret ?_
                        refine QP.blockR ?_
                        refine QP.thenR ?_
                        refine QP.thenR ?_
                        refine QP.blockR ?_
                        refine QP.thenR ?_
                        refine QP.thenR ?_
                        obtain rfl := Option.some.inj h
                        obtain rfl := Option.some.inj (show some _ = some _ from hk25)
                        exact QP.returned [4] [.bool false] _ (by kernel_rfl) (by kernel_rfl) (by kernel_rfl) (fun W hI => ⟨_, _, _, rfl, ⟨rfl, rfl, rfl⟩, hI⟩)
                      · replace hc := (nd_false hc)
                        rw [if_neg hc] at h
                        have hc52 := hc
                        clear hc
                        refine WP.skip ?_
                        refine QP.blockN ?_
                        refine QP.next ?_
                        refine WP.pick [1, 5, 6, 7] ?_
                        refine WP.regionP [1, 5, 6, 7] (L' := [(1, .slice Al1 l1.length cl1), (5, .pointer (some ⟨bR17, 0, none⟩)), (6, .pointer (some ⟨b14, 0, none⟩)), (7, .int .i64 (IntKind.i64.wrap (y26 + 1)))]) (by kernel_rfl) ?_
                        refine QP.front (i := 1) rfl ?_
                        refine QP.front (i := 1) rfl ?_
                        refine QP.pick [1, 5, 6, 7] ?_
                        exact QP.meet ⟨k30, Nat.lt_succ_self _, (IntKind.i64.wrap (y26 + 1)), t35.2, t43.2, h, rfl, rfl, rfl⟩
                  · replace hc := (Bool.eq_false_iff.1 hc)
                    rw [if_neg hc] at h
                    have hc34 := hc
                    clear hc
                    refine WP.seqR ?_
                    refine WL.pure 0 2 [1, 5, 6, 7, 8, 62, 63] (L' := [(1, .slice Al1 l1.length cl1), (5, .pointer (some ⟨bR17, 0, none⟩)), (6, .pointer (some ⟨b14, 0, none⟩)), (7, .int .i64 y26), (8, .pointer (some ⟨b33, 0, none⟩)), (62, .pointer (some ⟨bR17, 0, none⟩)), (63, .pointer (some ⟨b33, 3, none⟩))]) (by kernel_rfl) (by decide) ?_
                    refine WL.tell (op := .load 3 (.tmp 63)) (ty := 3) (d := some 64) (g := none) (by kernel_rfl) (by kernel_rfl) (by kernel_rfl) (Tells.load_box (i := 0) (b := b33) (o := 3) (agg := false) (by rfl) ag3 (by kernel_rfl) (fun _ => rfl) (Nat.le_of_ble_eq_true rfl) (v := .int .i64 ((l1.getD y26.toNat z39).f3)) (by kernel_rfl)) ?_
                    refine WL.front (i := 1) rfl ?_
                    rw [Option.bind_eq_some_iff] at h
                    obtain ⟨t53, ht54, h⟩ := h
                    refine WL.op (op := .call { callee := (.value (.func 29)), args := #[(.tmp 62), (.tmp 64)], argTypes := #[30, 3] }) (ty := 44) (d := some 65) (g := none) (by kernel_rfl) (by kernel_rfl) (by kernel_rfl) (Does.call (f := 29) (args := [.pointer (some ⟨bR17, 0, none⟩), .int .i64 ((l1.getD y26.toNat z39).f3)]) (by kernel_rfl) (fun W hI => (stamp_Clock_Tick_calls y27 ((l1.getD y26.toNat z39).f3) bR17 t53 ht54 hI))) ?_
                    rintro _ _ _ ⟨rfl, rfl, rfl⟩
                    refine WL.pure 4 7 [1, 5, 6, 7, 8, 66, 67] (L' := [(1, .slice Al1 l1.length cl1), (5, .pointer (some ⟨bR17, 0, none⟩)), (6, .pointer (some ⟨b14, 0, none⟩)), (7, .int .i64 y26), (8, .pointer (some ⟨b33, 0, none⟩)), (66, .agg #[.int .i64 t53.1.f0, .int .i64 t53.1.f1]), (67, .int .i64 t53.2.1)]) (by kernel_rfl) (by decide) ?_
                    refine WL.op (op := .alloc 23) (ty := 0) (d := some 9) (g := none) (by kernel_rfl) (by kernel_rfl) (by kernel_rfl) (Does.new (o := .cells #[.int .i64 0, .int .i64 0] 23 (0, 0)) (v := fun r => .pointer (some ⟨r, 0, none⟩)) (fun r => by kernel_rfl)) ?_
                    rintro _ _ _ ⟨b57, rfl, rfl, rfl⟩
                    refine WL.op (op := .store 23 (.tmp 9) (.tmp 66)) (ty := 0) (d := none) (g := none) (by kernel_rfl) (by kernel_rfl) (by kernel_rfl) (Does.store_box (i := 0) (b := b57) (o := 0) (v := .agg #[.int .i64 t53.1.f0, .int .i64 t53.1.f1]) (by rfl) sz23 (by kernel_rfl) (by kernel_rfl) (by kernel_rfl) (Free.zero _) (Nat.le_of_ble_eq_true rfl) (cells' := #[.int .i64 t53.1.f0, .int .i64 t53.1.f1]) (by kernel_rfl)) ?_
                    rintro _ _ _ ⟨rfl, rfl, rfl⟩
                    refine WL.restQ 9 [1, 5, 6, 7, 8, 9, 10] (L' := [(1, .slice Al1 l1.length cl1), (5, .pointer (some ⟨bR17, 0, none⟩)), (6, .pointer (some ⟨b14, 0, none⟩)), (7, .int .i64 y26), (8, .pointer (some ⟨b33, 0, none⟩)), (9, .pointer (some ⟨b57, 0, none⟩)), (10, .int .i64 t53.2.1)]) (by kernel_rfl) ?_
                    refine WP.seqR ?_
                    refine WL.pure 0 2 [1, 5, 6, 7, 9, 10, 69, 70] (L' := [(1, .slice Al1 l1.length cl1), (5, .pointer (some ⟨bR17, 0, none⟩)), (6, .pointer (some ⟨b14, 0, none⟩)), (7, .int .i64 y26), (9, .pointer (some ⟨b57, 0, none⟩)), (10, .int .i64 t53.2.1), (69, .pointer (some ⟨b14, 0, none⟩)), (70, .pointer (some ⟨b33, 3, none⟩))]) (by kernel_rfl) (by decide) ?_
                    refine WL.tell (op := .load 3 (.tmp 70)) (ty := 3) (d := some 71) (g := none) (by kernel_rfl) (by kernel_rfl) (by kernel_rfl) (Tells.load_box (i := 2) (b := b33) (o := 3) (agg := false) (by rfl) ag3 (by kernel_rfl) (fun _ => rfl) (Nat.le_of_ble_eq_true rfl) (v := .int .i64 ((l1.getD y26.toNat z39).f3)) (by kernel_rfl)) ?_
                    refine WL.front (i := 3) rfl ?_
                    rw [Option.bind_eq_some_iff] at h
                    obtain ⟨t58, ht59, h⟩ := h
                    refine WL.op (op := .call { callee := (.value (.func 30)), args := #[(.tmp 69), (.tmp 71)], argTypes := #[34, 3] }) (ty := 46) (d := some 72) (g := none) (by kernel_rfl) (by kernel_rfl) (by kernel_rfl) (Does.call (f := 30) (args := [.pointer (some ⟨b14, 0, none⟩), .int .i64 ((l1.getD y26.toNat z39).f3)]) (by kernel_rfl) (fun W hI => (grapevineref2_Clock_Tick_calls y28 ((l1.getD y26.toNat z39).f3) b14 t58 ht59 hI))) ?_
                    rintro _ _ _ ⟨rfl, rfl, rfl⟩
                    refine WL.pure 4 7 [1, 5, 6, 7, 9, 10, 73, 74] (L' := [(1, .slice Al1 l1.length cl1), (5, .pointer (some ⟨bR17, 0, none⟩)), (6, .pointer (some ⟨b14, 0, none⟩)), (7, .int .i64 y26), (9, .pointer (some ⟨b57, 0, none⟩)), (10, .int .i64 t53.2.1), (73, .agg #[.int .i64 t58.1.f0, .int .i64 t58.1.f1]), (74, .int .i64 t58.2.1)]) (by kernel_rfl) (by decide) ?_
                    refine WL.op (op := .alloc 23) (ty := 0) (d := some 11) (g := none) (by kernel_rfl) (by kernel_rfl) (by kernel_rfl) (Does.new (o := .cells #[.int .i64 0, .int .i64 0] 23 (0, 0)) (v := fun r => .pointer (some ⟨r, 0, none⟩)) (fun r => by kernel_rfl)) ?_
                    rintro _ _ _ ⟨b62, rfl, rfl, rfl⟩
                    refine WL.op (op := .store 23 (.tmp 11) (.tmp 73)) (ty := 0) (d := none) (g := none) (by kernel_rfl) (by kernel_rfl) (by kernel_rfl) (Does.store_box (i := 0) (b := b62) (o := 0) (v := .agg #[.int .i64 t58.1.f0, .int .i64 t58.1.f1]) (by rfl) sz23 (by kernel_rfl) (by kernel_rfl) (by kernel_rfl) (Free.zero _) (Nat.le_of_ble_eq_true rfl) (cells' := #[.int .i64 t58.1.f0, .int .i64 t58.1.f1]) (by kernel_rfl)) ?_
                    rintro _ _ _ ⟨rfl, rfl, rfl⟩
                    refine WL.restQ 9 [1, 5, 6, 7, 9, 10, 11, 12] (L' := [(1, .slice Al1 l1.length cl1), (5, .pointer (some ⟨bR17, 0, none⟩)), (6, .pointer (some ⟨b14, 0, none⟩)), (7, .int .i64 y26), (9, .pointer (some ⟨b57, 0, none⟩)), (10, .int .i64 t53.2.1), (11, .pointer (some ⟨b62, 0, none⟩)), (12, .int .i64 t58.2.1)]) (by kernel_rfl) ?_
                    refine WP.dropAt 4 ?_
                    rw [Option.bind_eq_some_iff] at h
                    obtain ⟨os63, h, hk64⟩ := h
                    refine WP.cut (fun L' G' Γ' => ∃ s63 : Bool, s63 = os63 ∧ L' = [(1, .slice Al1 l1.length cl1), (5, .pointer (some ⟨bR17, 0, none⟩)), (6, .pointer (some ⟨b14, 0, none⟩)), (7, .int .i64 y26), (83, .bool s63)] ∧ G = G' ∧ [(b62, .cells #[.int .i64 t58.1.f0, .int .i64 t58.1.f1] 23 (0, 0))] :: [(b14, .cells #[.int .i64 t58.2.2.f0, .int .i64 t58.2.2.f1] 36 (0, 0))] :: [(b57, .cells #[.int .i64 t53.1.f0, .int .i64 t53.1.f1] 23 (0, 0))] :: [(bR17, .cells #[.int .i64 t53.2.2.f0, .int .i64 t53.2.2.f1] 81 (0, 0))] :: Γ = Γ') ?_ ?_
                    · clear hk64
                      refine WP.region ?_
                      refine WL.tell (op := .load 23 (.tmp 9)) (ty := 23) (d := some 75) (g := none) (by kernel_rfl) (by kernel_rfl) (by kernel_rfl) (Tells.load_box (i := 2) (b := b57) (o := 0) (agg := true) (by rfl) ag23 (by kernel_rfl) (fun h => by cases h) (Nat.le_of_ble_eq_true rfl) (v := .agg #[.int .i64 t53.1.f0, .int .i64 t53.1.f1]) (by kernel_rfl)) ?_
                      refine WL.tell (op := .load 23 (.tmp 11)) (ty := 23) (d := some 76) (g := none) (by kernel_rfl) (by kernel_rfl) (by kernel_rfl) (Tells.load_box (i := 0) (b := b62) (o := 0) (agg := true) (by rfl) ag23 (by kernel_rfl) (fun h => by cases h) (Nat.le_of_ble_eq_true rfl) (v := .agg #[.int .i64 t58.1.f0, .int .i64 t58.1.f1]) (by kernel_rfl)) ?_
                      refine WL.tell (op := .binOp .neq 23 (.tmp 75) (.tmp 76) 23) (ty := 4) (d := some 77) (g := none) (by kernel_rfl) (by kernel_rfl) (by kernel_rfl) (Tells.neAgg (xs := #[.int .i64 t53.1.f0, .int .i64 t53.1.f1]) (ys := #[.int .i64 t58.1.f0, .int .i64 t58.1.f1]) (ls := [.int t53.1.f0 t58.1.f0, .int t53.1.f1 t58.1.f1]) (by kernel_rfl) (by kernel_rfl) (by kernel_rfl) eg23) ?_
                      refine WL.reput 77 (v := .bool (!([.int t53.1.f0 t58.1.f0, .int t53.1.f1 t58.1.f1].all Lf.ok))) (v' := .bool (!decide (t53.1 = t58.1))) (by kernel_rfl) (by exact (congrArg (fun z => Value.bool (!z)) (eqT23 t53.1 t58.1))) ?_
                      refine WL.pure 3 4 [1, 5, 6, 7, 10, 12, 78] (L' := [(1, .slice Al1 l1.length cl1), (5, .pointer (some ⟨bR17, 0, none⟩)), (6, .pointer (some ⟨b14, 0, none⟩)), (7, .int .i64 y26), (10, .int .i64 t53.2.1), (12, .int .i64 t58.2.1), (78, .bool (!decide (t53.1 = t58.1)))]) (by kernel_rfl) (by decide) ?_
                      refine WL.split 78 (b := (!decide (t53.1 = t58.1))) (by kernel_rfl) (fun hc => ?_) (fun hc => ?_)
                      · replace hc := (nd_true hc)
                        rw [if_pos hc] at h
                        have hc65 := hc
                        clear hc
                        refine WL.rest 4 [1, 5, 6, 7, 83] (L' := [(1, .slice Al1 l1.length cl1), (5, .pointer (some ⟨bR17, 0, none⟩)), (6, .pointer (some ⟨b14, 0, none⟩)), (7, .int .i64 y26), (83, .bool true)]) (by kernel_rfl) ?_
                        refine QP.pick [1, 5, 6, 7, 83] ?_
                        exact QP.meet ⟨_, Option.some.inj h, rfl, rfl, rfl⟩
                      · replace hc := (nd_false hc)
                        rw [if_neg hc] at h
                        have hc65 := hc
                        clear hc
                        refine WL.pure 4 5 [1, 5, 6, 7, 12, 78, 79] (L' := [(1, .slice Al1 l1.length cl1), (5, .pointer (some ⟨bR17, 0, none⟩)), (6, .pointer (some ⟨b14, 0, none⟩)), (7, .int .i64 y26), (12, .int .i64 t58.2.1), (78, .bool false), (79, .int .i64 t53.2.1)]) (by kernel_rfl) (by decide) ?_
                        rw [Option.bind_eq_some_iff] at h
                        obtain ⟨t66, ht67, h⟩ := h
                        refine WL.op (op := .call { callee := (.value (.func 26)), args := #[(.tmp 79)], argTypes := #[41] }) (ty := 3) (d := some 80) (g := some (3, false)) (by kernel_rfl) (by kernel_rfl) (by kernel_rfl) (Does.call (f := 26) (args := [.int .i64 t53.2.1]) (by kernel_rfl) (fun W hI => (grapevinelaw0_Num_calls t53.2.1  t66 ht67 hI))) ?_
                        rintro _ _ _ ⟨rfl, rfl, rfl⟩
                        refine WL.rest 6 [1, 5, 6, 7, 83] (L' := [(1, .slice Al1 l1.length cl1), (5, .pointer (some ⟨bR17, 0, none⟩)), (6, .pointer (some ⟨b14, 0, none⟩)), (7, .int .i64 y26), (83, .bool (t66 != t58.2.1))]) (by kernel_rfl) ?_
                        refine QP.pick [1, 5, 6, 7, 83] ?_
                        exact QP.meet ⟨_, Option.some.inj h, rfl, rfl, rfl⟩
                    · rintro _ _ _ ⟨s63, rfl, rfl, rfl, rfl⟩
                      clear h
                      replace h := hk64
                      refine WP.cond (b := s63) (by kernel_rfl) (fun hc => ?_) (fun hc => ?_)
                      · replace hc := hc
                        rw [if_pos hc] at h
                        have hc70 := hc
                        clear hc
                        refine WP.seqP [4] (L' := [(4, .bool false)]) (by kernel_rfl) ?_
                        refine WP.dropAt 3 ?_
                        refine WP.dropAt 2 ?_
                        refine WP.dropAt 1 ?_
                        refine WP.dropAt 0 ?_
                        refine WP.ret ?_
                        refine QP.thenR ?_
                        refine QP.blockR ?_
                        refine QP.thenR ?_
                        refine QP.thenR ?_
                        refine QP.blockR ?_
                        refine QP.thenR ?_
                        refine QP.thenR ?_
                        obtain rfl := Option.some.inj h
                        obtain rfl := Option.some.inj (show some _ = some _ from hk25)
                        exact QP.returned [4] [.bool false] _ (by kernel_rfl) (by kernel_rfl) (by kernel_rfl) (fun W hI => ⟨_, _, _, rfl, ⟨rfl, rfl, rfl⟩, hI⟩)
                      · replace hc := (Bool.eq_false_iff.1 hc)
                        rw [if_neg hc] at h
                        have hc70 := hc
                        clear hc
                        refine WP.skip ?_
                        refine QP.next ?_
                        refine WP.pick [1, 5, 6, 7] ?_
                        refine WP.seq ?_
                        refine WP.any (N := 7) (S := [⟨some 84, [5], []⟩, ⟨some 85, [84], [0]⟩, ⟨some 86, [6], []⟩, ⟨some 87, [86], [2]⟩, ⟨some 88, [87], [3]⟩, ⟨some 89, [88], [4]⟩, ⟨some 90, [85, 89], [1, 5]⟩]) (kw := 7) (G0 := G) (Γ0 := [(b62, .cells #[.int .i64 t58.1.f0, .int .i64 t58.1.f1] 23 (0, 0))] :: [(b14, .cells #[.int .i64 t58.2.2.f0, .int .i64 t58.2.2.f1] 36 (0, 0))] :: [(b57, .cells #[.int .i64 t53.1.f0, .int .i64 t53.1.f1] 23 (0, 0))] :: [(bR17, .cells #[.int .i64 t53.2.2.f0, .int .i64 t53.2.2.f1] 81 (0, 0))] :: Γ) mo (by kernel_rfl) (fun hS => ?_)
                        refine WA.pure [0, 2, 3, 4] [1, 5, 6, 7, 84, 88] (m := 3) (b' := 29) (L' := [(1, .slice Al1 l1.length cl1), (5, .pointer (some ⟨bR17, 0, none⟩)), (6, .pointer (some ⟨b14, 0, none⟩)), (7, .int .i64 y26), (84, .pointer (some ⟨bR17, 0, none⟩)), (88, .pointer (some ⟨b14, 0, none⟩))]) (by kernel_rfl) (NoPanic.then (NoPanic.block (NoPanic.then (NoPanic.then (NoPanic.block (NoPanic.then (NoPanic.then (NoPanic.body)))))))) Under.refl hS (by kernel_rfl) ?_
                        refine WA.tellD [] (i := 5) (m := 2) (b' := 61) (by kernel_rfl) (NoPanic.then (NoPanic.block (NoPanic.then (NoPanic.then (NoPanic.block (NoPanic.then (NoPanic.then (NoPanic.body)))))))) Under.refl hS (by kernel_rfl) (op := .load 23 (.tmp 88)) (ty := 23) (d := some 89) (g := none) (by kernel_rfl) (by kernel_rfl) (by kernel_rfl) (Tells.load_box (i := 1) (b := b14) (o := 0) (agg := true) (by rfl) ag23 (by kernel_rfl) (fun h => by cases h) (Nat.le_of_ble_eq_true rfl) (v := .agg #[.int .i64 t58.2.2.f0, .int .i64 t58.2.2.f1]) (by kernel_rfl)) ?_
                        refine WA.front (i := 3) rfl ?_
                        rw [Option.bind_eq_some_iff] at h
                        obtain ⟨t71, ht72, h⟩ := h
                        refine WA.op (i := 1) (m := 1) (b' := 63) (by kernel_rfl) hS (by kernel_rfl) (op := .call { callee := (.value (.func 25)), args := #[(.tmp 84)], argTypes := #[30] }) (ty := 23) (d := some 85) (g := none) (by kernel_rfl) (by kernel_rfl) (by kernel_rfl) (Does.call (f := 25) (args := [.pointer (some ⟨bR17, 0, none⟩)]) (by kernel_rfl) (fun W hI => (stamp_Clock_Last_calls t53.2.2 bR17 t71 ht72 hI))) ?_
                        rintro _ _ _ ⟨rfl, rfl, rfl⟩
                        refine ⟨_, _, (Under.trans (Under.front (i := 3) rfl (Under.refl)) (Under.refl)), Under.refl, ?_⟩
                        refine WA.tellD [] (i := 6) (m := 0) (b' := 127) (by kernel_rfl) (NoPanic.then (NoPanic.block (NoPanic.then (NoPanic.then (NoPanic.block (NoPanic.then (NoPanic.then (NoPanic.body)))))))) Under.refl hS (by kernel_rfl) (op := .binOp .neq 23 (.tmp 85) (.tmp 89) 23) (ty := 4) (d := some 90) (g := none) (by kernel_rfl) (by kernel_rfl) (by kernel_rfl) (Tells.neAgg (xs := #[.int .i64 t71.f0, .int .i64 t71.f1]) (ys := #[.int .i64 t58.2.2.f0, .int .i64 t58.2.2.f1]) (ls := [.int t71.f0 t58.2.2.f0, .int t71.f1 t58.2.2.f1]) (by kernel_rfl) (by kernel_rfl) (by kernel_rfl) eg23) ?_
                        refine WA.reput 90 (v := .bool (!([.int t71.f0 t58.2.2.f0, .int t71.f1 t58.2.2.f1].all Lf.ok))) (v' := .bool (!decide (t71 = (⟨t58.2.2.f0, t58.2.2.f1⟩ : T23)))) (by kernel_rfl) (by exact (congrArg (fun z => Value.bool (!z)) (eqT23 t71 (⟨t58.2.2.f0, t58.2.2.f1⟩ : T23)))) ?_
                        refine WA.done hS (by kernel_rfl) ?_
                        refine QP.pick [1, 5, 6, 7, 90] ?_
                        refine QP.next ?_
                        refine WP.dropAt 3 ?_
                        refine WP.dropAt 1 ?_
                        refine WP.cond (b := (!decide (t71 = (⟨t58.2.2.f0, t58.2.2.f1⟩ : T23)))) (by kernel_rfl) (fun hc => ?_) (fun hc => ?_)
                        · replace hc := (nd_true hc)
                          rw [if_pos hc] at h
                          have hc75 := hc
                          clear hc
                          refine WP.seqP [4] (L' := [(4, .bool false)]) (by kernel_rfl) ?_
                          refine WP.dropAt 1 ?_
                          refine WP.dropAt 0 ?_
                          refine WP.ret ?_
                          refine QP.blockR ?_
                          refine QP.thenR ?_
                          refine QP.thenR ?_
                          refine QP.blockR ?_
                          refine QP.thenR ?_
                          refine QP.thenR ?_
                          obtain rfl := Option.some.inj h
                          obtain rfl := Option.some.inj (show some _ = some _ from hk25)
                          exact QP.returned [4] [.bool false] _ (by kernel_rfl) (by kernel_rfl) (by kernel_rfl) (fun W hI => ⟨_, _, _, rfl, ⟨rfl, rfl, rfl⟩, hI⟩)
                        · replace hc := (nd_false hc)
                          rw [if_neg hc] at h
                          have hc75 := hc
                          clear hc
                          refine WP.skip ?_
                          refine QP.blockN ?_
                          refine QP.next ?_
                          refine WP.pick [1, 5, 6, 7] ?_
                          refine WP.regionP [1, 5, 6, 7] (L' := [(1, .slice Al1 l1.length cl1), (5, .pointer (some ⟨bR17, 0, none⟩)), (6, .pointer (some ⟨b14, 0, none⟩)), (7, .int .i64 (IntKind.i64.wrap (y26 + 1)))]) (by kernel_rfl) ?_
                          refine QP.front (i := 1) rfl ?_
                          refine QP.front (i := 1) rfl ?_
                          refine QP.pick [1, 5, 6, 7] ?_
                          exact QP.meet ⟨k30, Nat.lt_succ_self _, (IntKind.i64.wrap (y26 + 1)), t53.2.2, t58.2.2, h, rfl, rfl, rfl⟩
                · replace hc := of_decide_eq_false hc
                  rw [if_neg hc] at h
                  have hc31 := hc
                  clear hc
                  refine WP.exit ?_
                  refine QP.thenE ?_
                  refine QP.thenE ?_
                  refine QP.blockE ?_
                  refine QP.pick [] ?_
                  exact QP.meet ⟨_, Option.some.inj h, rfl, rfl, rfl⟩
            · rintro _ _ _ ⟨s24, rfl, rfl, rfl, rfl⟩
              clear h
              replace h := hk25
              refine QP.next ?_
              refine WP.pick [] ?_
              refine WP.seqR ?_
              rw [Option.bind_eq_some_iff] at h
              obtain ⟨t76, ht77, h⟩ := h
              refine WL.op (op := .call { callee := (.value (.func 17)), args := #[], argTypes := #[] }) (ty := 4) (d := some 91) (g := none) (by kernel_rfl) (by kernel_rfl) (by kernel_rfl) (Does.call (f := 17) (args := []) (by kernel_rfl) (fun W hI => (grapevinelaw2_awake_calls k   t76 ht77 hI))) ?_
              rintro _ _ _ ⟨rfl, rfl, rfl⟩
              refine WL.restQ 1 [4] (L' := [(4, .bool t76)]) (by kernel_rfl) ?_
              refine WP.dropAt 1 ?_
              refine WP.dropAt 0 ?_
              refine WP.ret ?_
              obtain rfl := Option.some.inj h
              exact QP.returned [4] [.bool t76] _ (by kernel_rfl) (by kernel_rfl) (by kernel_rfl) (fun W hI => ⟨_, _, _, rfl, ⟨rfl, rfl, rfl⟩, hI⟩)
/-- The plain law. -/
def StampScript_Pure : Prop := ∀ (a0 : T23) (l1 : List T39), ((Lit.int .i64 a0.f0).wf = true ∧ (Lit.int .i64 a0.f1).wf = true) → (l1.length ≤ maxLen ∧ ∀ z0 ∈ l1, (True ∧ (Lit.int .i64 z0.f1).wf = true ∧ (Lit.int .i64 z0.f2).wf = true ∧ (Lit.int .i64 z0.f3).wf = true)) → ∃ k, grapevinelaw2_StampScript k a0 l1 = some true
end Go.Proofs.Ytmphcmgbognmnaa.Gf
