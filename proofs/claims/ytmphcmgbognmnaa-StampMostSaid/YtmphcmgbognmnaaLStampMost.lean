/- Walks of Go functions: what each tells, as a plain Lean function, and that the Go code comes to it. Written by gg.py of this repo. -/
import Derived.Test.YtmphcmgbognmnaaT
import Derived.Test.YtmphcmgbognmnaaF0
namespace Go.Proofs.Ytmphcmgbognmnaa.Gf
open Go Go.Gg
set_option maxRecDepth 100000
set_option linter.unusedVariables false
set_option linter.unusedSimpArgs false

/-! ### grapevine/grapevinelaw2.StampMost: function 7 -/
def grapevinelaw2_StampMost_l0 (l0 : List T23) (t6 : T23) : Nat → Bool → Int → Option (Sum Bool Bool)
  | 0, _, _ => none
  | k + 1, y21, y22 => (if y22 < (l0.length : Int) then ((if y21 = true then some true else (if 0 ≤ y22 ∧ y22 < (l0.length : Int) then some (decide ((l0.getD y22.toNat z23) = t6)) else none)).bind fun s26 => ((if 0 ≤ y22 ∧ y22 < (l0.length : Int) then ((stamp_Less t6 (l0.getD y22.toNat z23)).bind fun t33 => (if t33 = true then some true else (if 0 ≤ y22 ∧ y22 < (l0.length : Int) then (if 0 ≤ y22 ∧ y22 < (l0.length : Int) then ((stamp_Max k ([(l0.getD y22.toNat z23)] : List T23)).bind fun t43 => some (!decide (t43 = (l0.getD y22.toNat z23)))) else none) else none))) else none).bind fun s30 => (if s30 = true then some (Sum.inl false) else grapevinelaw2_StampMost_l0 l0 t6 k s26 (IntKind.i64.wrap (y22 + 1))))) else some (Sum.inr y21))
def grapevinelaw2_StampMost (k : Nat) (l0 : List T23) (a1 : Int) : Option Bool := (if (l0.length : Int) > 30 then ((grapevinelaw2_awake k ).bind fun t2 => some t2) else ((stamp_Max k l0).bind fun t6 => (if (l0.length : Int) = 0 then ((if t6 = (⟨0, 0⟩ : T23) then ((grapevinelaw2_awake k ).bind fun t15 => some t15) else some false).bind fun s12 => some s12) else ((grapevinelaw2_StampMost_l0 l0 t6 k false 0).bind fun os19 => match os19 with | Sum.inl r => some r | Sum.inr s19 => ((grapevinelaw0_Low a1 (l0.length : Int)).bind fun t49 => (if 0 ≤ t49 ∧ t49 ≤ (l0.length : Int) ∧ (l0.length : Int) ≤ (l0.length : Int) then (if 0 ≤ (0 : Int) ∧ (0 : Int) ≤ t49 ∧ t49 ≤ (l0.length : Int) then (if ([] : List T23).length + ((l0.take (l0.length : Int).toNat).drop t49.toNat).length ≤ 1073741824 then (if (([] : List T23) ++ ((l0.take (l0.length : Int).toNat).drop t49.toNat)).length + ((l0.take t49.toNat).drop (0 : Int).toNat).length ≤ 1073741824 then ((some ((([] : List T23) ++ ((l0.take (l0.length : Int).toNat).drop t49.toNat)) ++ ((l0.take t49.toNat).drop (0 : Int).toNat))).bind fun v61 => ((if s19 = true then ((stamp_Max k v61).bind fun t67 => (if t67 = t6 then ((grapevinelaw2_awake k ).bind fun t73 => some t73) else some false)) else some false).bind fun s64 => some s64)) else none) else none) else none) else none))))))
set_option maxHeartbeats 4000000 in
theorem grapevinelaw2_StampMost_calls {B : World} {G : GMap} {Γ : List Chunk} {W : World} (k : Nat) (l0 : List T23) (a1 : Int) (Al0 : Option Addr) (cl0 : Nat) (Hl0 : Rd k23 G Al0 cl0 l0) (r : Bool) (h : grapevinelaw2_StampMost k l0 a1 = some r) (hI : Inv B G (Γ) W) :
    Calls Try.prog 7 [.slice Al0 l0.length cl0, .int .i64 a1].toArray W (Ret B (fun v G' Γ' => v = .bool r ∧ G = G' ∧ Γ = Γ')) := by
  refine calls_WP (Γ := Γ) (G := G) (B := B) Try.func7 rfl (by kernel_rfl) ?_ hI
  clear hI
  unfold grapevinelaw2_StampMost at h
  refine WP.seqP [0, 1] (L' := [(0, .slice Al0 l0.length cl0), (1, .int .i64 a1)]) (by kernel_rfl) ?_
  refine WP.seq ?_
  refine WP.seqP [0, 1, 11] (L' := [(0, .slice Al0 l0.length cl0), (1, .int .i64 a1), (11, .bool (decide ((l0.length : Int) > 30)))]) (by kernel_rfl) ?_
  refine WP.cond (b := decide ((l0.length : Int) > 30)) (by kernel_rfl) (fun hc => ?_) (fun hc => ?_)
  · replace hc := of_decide_eq_true hc
    rw [if_pos hc] at h
    have hc1 := hc
    clear hc
    refine WP.seqR ?_
    rw [Option.bind_eq_some_iff] at h
    obtain ⟨t2, ht3, h⟩ := h
    refine WL.op (op := .call { callee := (.value (.func 17)), args := #[], argTypes := #[] }) (ty := 4) (d := some 12) (g := none) (by kernel_rfl) (by kernel_rfl) (by kernel_rfl) (Does.call (f := 17) (args := []) (by kernel_rfl) (fun W hI => (grapevinelaw2_awake_calls k   t2 ht3 hI))) ?_
    rintro _ _ _ ⟨rfl, rfl, rfl⟩
    refine WL.restQ 1 [4] (L' := [(4, .bool t2)]) (by kernel_rfl) ?_
    refine WP.ret ?_
    refine QP.thenR ?_
    obtain rfl := Option.some.inj h
    exact QP.returned [4] [.bool t2] _ (by kernel_rfl) (by kernel_rfl) (by kernel_rfl) (fun W hI => ⟨_, _, _, rfl, ⟨rfl, rfl, rfl⟩, hI⟩)
  · replace hc := of_decide_eq_false hc
    rw [if_neg hc] at h
    have hc1 := hc
    clear hc
    refine WP.skip ?_
    refine QP.next ?_
    refine WP.pick [0, 1] ?_
    refine WP.seqR ?_
    refine WL.pure 0 1 [0, 1, 13] (L' := [(0, .slice Al0 l0.length cl0), (1, .int .i64 a1), (13, .slice Al0 l0.length cl0)]) (by kernel_rfl) (by decide) ?_
    rw [Option.bind_eq_some_iff] at h
    obtain ⟨t6, ht7, h⟩ := h
    refine WL.op (op := .call { callee := (.value (.func 22)), args := #[(.tmp 13)], argTypes := #[24] }) (ty := 23) (d := some 14) (g := none) (by kernel_rfl) (by kernel_rfl) (by kernel_rfl) (Does.call (f := 22) (args := [.slice Al0 l0.length cl0]) (by kernel_rfl) (fun W hI => (stamp_Max_calls k l0 Al0 cl0 Hl0 t6 ht7 hI))) ?_
    rintro _ _ _ ⟨rfl, rfl, rfl⟩
    refine WL.op (op := .alloc 23) (ty := 0) (d := some 5) (g := none) (by kernel_rfl) (by kernel_rfl) (by kernel_rfl) (Does.new (o := .cells #[.int .i64 0, .int .i64 0] 23 (0, 0)) (v := fun r => .pointer (some ⟨r, 0, none⟩)) (fun r => by kernel_rfl)) ?_
    rintro _ _ _ ⟨b10, rfl, rfl, rfl⟩
    refine WL.op (op := .store 23 (.tmp 5) (.tmp 14)) (ty := 0) (d := none) (g := none) (by kernel_rfl) (by kernel_rfl) (by kernel_rfl) (Does.store_box (i := 0) (b := b10) (o := 0) (v := .agg #[.int .i64 t6.f0, .int .i64 t6.f1]) (by rfl) sz23 (by kernel_rfl) (by kernel_rfl) (by kernel_rfl) (Free.zero _) (Nat.le_of_ble_eq_true rfl) (cells' := #[.int .i64 t6.f0, .int .i64 t6.f1]) (by kernel_rfl)) ?_
    rintro _ _ _ ⟨rfl, rfl, rfl⟩
    refine WL.restQ 4 [0, 1, 5] (L' := [(0, .slice Al0 l0.length cl0), (1, .int .i64 a1), (5, .pointer (some ⟨b10, 0, none⟩))]) (by kernel_rfl) ?_
    refine WP.seq ?_
    refine WP.seqP [0, 1, 5, 17] (L' := [(0, .slice Al0 l0.length cl0), (1, .int .i64 a1), (5, .pointer (some ⟨b10, 0, none⟩)), (17, .bool ((l0.length : Int) == 0))]) (by kernel_rfl) ?_
    refine WP.cond (b := ((l0.length : Int) == 0)) (by kernel_rfl) (fun hc => ?_) (fun hc => ?_)
    · replace hc := eq_of_beq hc
      rw [if_pos hc] at h
      have hc11 := hc
      clear hc
      rw [Option.bind_eq_some_iff] at h
      obtain ⟨os12, h, hk13⟩ := h
      refine WP.cut (fun L' G' Γ' => ∃ s12 : Bool, s12 = os12 ∧ L' = [(4, .bool s12)] ∧ G = G' ∧ [(b10, .cells #[.int .i64 t6.f0, .int .i64 t6.f1] 23 (0, 0))] :: Γ = Γ') ?_ ?_
      · clear hk13
        refine WP.region ?_
        refine WL.tell (op := .load 23 (.tmp 5)) (ty := 23) (d := some 18) (g := none) (by kernel_rfl) (by kernel_rfl) (by kernel_rfl) (Tells.load_box (i := 0) (b := b10) (o := 0) (agg := true) (by rfl) ag23 (by kernel_rfl) (fun h => by cases h) (Nat.le_of_ble_eq_true rfl) (v := .agg #[.int .i64 t6.f0, .int .i64 t6.f1]) (by kernel_rfl)) ?_
        refine WL.pure 1 2 [18, 19] (L' := [(18, .agg #[.int .i64 t6.f0, .int .i64 t6.f1]), (19, .agg #[.int .i64 0, .int .i64 0])]) (by kernel_rfl) (by decide) ?_
        refine WL.tell (op := .binOp .eql 23 (.tmp 18) (.tmp 19) 23) (ty := 4) (d := some 20) (g := none) (by kernel_rfl) (by kernel_rfl) (by kernel_rfl) (Tells.eqAgg (xs := #[.int .i64 t6.f0, .int .i64 t6.f1]) (ys := #[.int .i64 0, .int .i64 0]) (ls := [.int t6.f0 0, .int t6.f1 0]) (by kernel_rfl) (by kernel_rfl) (by kernel_rfl) eg23) ?_
        refine WL.reput 20 (v := .bool ([.int t6.f0 0, .int t6.f1 0].all Lf.ok)) (v' := .bool (decide (t6 = (⟨0, 0⟩ : T23)))) (by kernel_rfl) (by exact (congrArg Value.bool (eqT23 t6 (⟨0, 0⟩ : T23)))) ?_
        refine WL.pure 3 4 [21] (L' := [(21, .bool (decide (t6 = (⟨0, 0⟩ : T23))))]) (by kernel_rfl) (by decide) ?_
        refine WL.split 21 (b := decide (t6 = (⟨0, 0⟩ : T23))) (by kernel_rfl) (fun hc => ?_) (fun hc => ?_)
        · replace hc := of_decide_eq_true hc
          rw [if_pos hc] at h
          have hc14 := hc
          clear hc
          rw [Option.bind_eq_some_iff] at h
          obtain ⟨t15, ht16, h⟩ := h
          refine WL.op (op := .call { callee := (.value (.func 17)), args := #[], argTypes := #[] }) (ty := 4) (d := some 22) (g := some (3, true)) (by kernel_rfl) (by kernel_rfl) (by kernel_rfl) (Does.call (f := 17) (args := []) (by kernel_rfl) (fun W hI => (grapevinelaw2_awake_calls k   t15 ht16 hI))) ?_
          rintro _ _ _ ⟨rfl, rfl, rfl⟩
          refine WL.rest 5 [4] (L' := [(4, .bool t15)]) (by kernel_rfl) ?_
          refine QP.pick [4] ?_
          exact QP.meet ⟨_, Option.some.inj h, rfl, rfl, rfl⟩
        · replace hc := of_decide_eq_false hc
          rw [if_neg hc] at h
          have hc14 := hc
          clear hc
          refine WL.rest 4 [4] (L' := [(4, .bool false)]) (by kernel_rfl) ?_
          refine QP.pick [4] ?_
          exact QP.meet ⟨_, Option.some.inj h, rfl, rfl, rfl⟩
      · rintro _ _ _ ⟨s12, rfl, rfl, rfl, rfl⟩
        clear h
        replace h := hk13
        refine WP.ret ?_
        refine QP.thenR ?_
        obtain rfl := Option.some.inj h
        refine QP.dropAt 0 ?_
        exact QP.returned [4] [.bool s12] _ (by kernel_rfl) (by kernel_rfl) (by kernel_rfl) (fun W hI => ⟨_, _, _, rfl, ⟨rfl, rfl, rfl⟩, hI⟩)
    · replace hc := ne_of_beq_false hc
      rw [if_neg hc] at h
      have hc11 := hc
      clear hc
      refine WP.skip ?_
      refine QP.next ?_
      refine WP.pick [0, 1, 5] ?_
      refine WP.seqP [0, 1, 5, 6] (L' := [(0, .slice Al0 l0.length cl0), (1, .int .i64 a1), (5, .pointer (some ⟨b10, 0, none⟩)), (6, .bool false)]) (by kernel_rfl) ?_
      refine WP.seq ?_
      refine WP.seqP [0, 1, 5, 6, 7] (L' := [(0, .slice Al0 l0.length cl0), (1, .int .i64 a1), (5, .pointer (some ⟨b10, 0, none⟩)), (6, .bool false), (7, .int .i64 0)]) (by kernel_rfl) ?_
      rw [Option.bind_eq_some_iff] at h
      obtain ⟨os19, h, hk20⟩ := h
      refine WP.cutQ (fun L' G' Γ' => ∃ s19 : Bool, Sum.inr s19 = os19 ∧ L' = [(0, .slice Al0 l0.length cl0), (1, .int .i64 a1), (5, .pointer (some ⟨b10, 0, none⟩)), (6, .bool s19)] ∧ G = G' ∧ [(b10, .cells #[.int .i64 t6.f0, .int .i64 t6.f1] 23 (0, 0))] :: Γ = Γ') ?_ ?_
      · skip
        refine WP.block ?_
        refine WP.pick [0, 1, 5, 6, 7] ?_
        refine WP.loopF (fun k23 L' G' Γ' => ∃ (y21 : Bool), ∃ (y22 : Int), grapevinelaw2_StampMost_l0 l0 t6 k23 y21 y22 = some os19 ∧ L' = [(0, .slice Al0 l0.length cl0), (1, .int .i64 a1), (5, .pointer (some ⟨b10, 0, none⟩)), (6, .bool y21), (7, .int .i64 y22)] ∧ G = G' ∧ [(b10, .cells #[.int .i64 t6.f0, .int .i64 t6.f1] 23 (0, 0))] :: Γ = Γ') ?_ k ⟨false, 0, h, rfl, rfl, rfl⟩
        clear h
        rintro k24 _ _ _ ⟨y21, y22, h, rfl, rfl, rfl⟩
        cases k24 with
        | zero => exact absurd h (by simp [grapevinelaw2_StampMost_l0])
        | succ k24 =>
          simp only [grapevinelaw2_StampMost_l0] at h
          refine WP.seq ?_
          refine WP.seqP [0, 1, 5, 6, 7, 27] (L' := [(0, .slice Al0 l0.length cl0), (1, .int .i64 a1), (5, .pointer (some ⟨b10, 0, none⟩)), (6, .bool y21), (7, .int .i64 y22), (27, .bool (decide (y22 < (l0.length : Int))))]) (by kernel_rfl) ?_
          refine WP.cond (b := decide (y22 < (l0.length : Int))) (by kernel_rfl) (fun hc => ?_) (fun hc => ?_)
          · replace hc := of_decide_eq_true hc
            rw [if_pos hc] at h
            have hc25 := hc
            clear hc
            refine WP.skip ?_
            refine QP.next ?_
            refine WP.pick [0, 1, 5, 6, 7] ?_
            refine WP.seq ?_
            refine WP.block ?_
            rw [Option.bind_eq_some_iff] at h
            obtain ⟨os26, h, hk27⟩ := h
            refine WP.cut (fun L' G' Γ' => ∃ s26 : Bool, s26 = os26 ∧ L' = [(0, .slice Al0 l0.length cl0), (1, .int .i64 a1), (5, .pointer (some ⟨b10, 0, none⟩)), (6, .bool s26), (7, .int .i64 y22)] ∧ G = G' ∧ [(b10, .cells #[.int .i64 t6.f0, .int .i64 t6.f1] 23 (0, 0))] :: Γ = Γ') ?_ ?_
            · clear hk27
              skip
              refine WP.any (N := 10) (S := [⟨some 30, [6], []⟩, ⟨some 31, [30], [0]⟩, ⟨some 32, [0, 31], [1]⟩, ⟨some 33, [7, 31], [1]⟩, ⟨some 34, [31, 32, 33], [1, 2, 3]⟩, ⟨some 35, [31, 34], [1, 4]⟩, ⟨some 36, [5, 31], [1]⟩, ⟨some 37, [31, 35, 36], [1, 5, 6]⟩, ⟨some 38, [31, 37], [1, 7]⟩, ⟨some 6, [38], [0, 1, 2, 3, 4, 5, 6, 7, 8]⟩]) (kw := 10) (G0 := G) (Γ0 := [(b10, .cells #[.int .i64 t6.f0, .int .i64 t6.f1] 23 (0, 0))] :: Γ) mo (by kernel_rfl) (fun hS => ?_)
              refine WA.pure [0, 1] [0, 1, 5, 6, 7, 31] (m := 8) (b' := 3) (L' := [(0, .slice Al0 l0.length cl0), (1, .int .i64 a1), (5, .pointer (some ⟨b10, 0, none⟩)), (6, .bool y21), (7, .int .i64 y22), (31, .bool y21)]) (by kernel_rfl) (NoPanic.then (NoPanic.block (NoPanic.then (NoPanic.then (NoPanic.block (NoPanic.then (NoPanic.then (NoPanic.body)))))))) Under.refl hS (by kernel_rfl) ?_
              refine WA.split 31 (b := y21) (by kernel_rfl) (fun hc => ?_) (fun hc => ?_)
              · replace hc := hc
                rw [if_pos hc] at h
                have hc28 := hc
                clear hc
                refine WA.pure [2, 3, 4, 5, 6, 7, 8, 9] [0, 1, 5, 6, 7] (m := 0) (b' := 1023) (L' := [(0, .slice Al0 l0.length cl0), (1, .int .i64 a1), (5, .pointer (some ⟨b10, 0, none⟩)), (6, .bool true), (7, .int .i64 y22)]) (by kernel_rfl) (NoPanic.then (NoPanic.block (NoPanic.then (NoPanic.then (NoPanic.block (NoPanic.then (NoPanic.then (NoPanic.body)))))))) Under.refl hS (by kernel_rfl) ?_
                refine WA.done hS (by kernel_rfl) ?_
                refine QP.pick [0, 1, 5, 6, 7] ?_
                refine QP.pick [0, 1, 5, 6, 7] ?_
                exact QP.meet ⟨_, Option.some.inj h, rfl, rfl, rfl⟩
              · replace hc := (Bool.eq_false_iff.1 hc)
                rw [if_neg hc] at h
                have hc28 := hc
                clear hc
                refine WA.pure [2, 3] [0, 1, 5, 6, 7, 31, 32, 33] (m := 6) (b' := 15) (L' := [(0, .slice Al0 l0.length cl0), (1, .int .i64 a1), (5, .pointer (some ⟨b10, 0, none⟩)), (6, .bool y21), (7, .int .i64 y22), (31, .bool false), (32, .slice Al0 l0.length cl0), (33, .int .i64 y22)]) (by kernel_rfl) (NoPanic.then (NoPanic.block (NoPanic.then (NoPanic.then (NoPanic.block (NoPanic.then (NoPanic.then (NoPanic.body)))))))) Under.refl hS (by kernel_rfl) ?_
                by_cases hb29 : 0 ≤ y22 ∧ y22 < (l0.length : Int)
                case neg => rw [if_neg hb29] at h; cases h
                rw [if_pos hb29] at h
                refine WA.tellD [] (i := 4) (m := 5) (b' := 31) (by kernel_rfl) (NoPanic.then (NoPanic.block (NoPanic.then (NoPanic.then (NoPanic.block (NoPanic.then (NoPanic.then (NoPanic.body)))))))) Under.refl hS (by kernel_rfl) (op := .indexAddr 24 (.tmp 32) (.tmp 33)) (ty := 0) (d := some 34) (g := some (1, false)) (by kernel_rfl) (by kernel_rfl) (by kernel_rfl) (Tells.indexAddr (A := Al0) (n := l0.length) (c := cl0) (k := .i64) (j := y22) (by kernel_rfl) (by kernel_rfl) (Hl0.isSome hb29.1 hb29.2) hb29.1 hb29.2 sl24) ?_
                refine WA.tellDE [] (i := 5) (m := 4) (b' := 63) (by kernel_rfl) (NoPanic.then (NoPanic.block (NoPanic.then (NoPanic.then (NoPanic.block (NoPanic.then (NoPanic.then (NoPanic.body)))))))) Under.refl hS (by kernel_rfl) (op := .load 23 (.tmp 34)) (ty := 23) (d := some 35) (g := some (1, false)) (by kernel_rfl) (by kernel_rfl) (by kernel_rfl) (Hl0.load (agg := true) hb29.1 hb29.2 z23 ag23 (fun h => by cases h) (by kernel_rfl)) ?_
                rintro _ rfl
                refine WA.tellD [] (i := 6) (m := 3) (b' := 127) (by kernel_rfl) (NoPanic.then (NoPanic.block (NoPanic.then (NoPanic.then (NoPanic.block (NoPanic.then (NoPanic.then (NoPanic.body)))))))) Under.refl hS (by kernel_rfl) (op := .load 23 (.tmp 5)) (ty := 23) (d := some 36) (g := some (1, false)) (by kernel_rfl) (by kernel_rfl) (by kernel_rfl) (Tells.load_box (i := 0) (b := b10) (o := 0) (agg := true) (by rfl) ag23 (by kernel_rfl) (fun h => by cases h) (Nat.le_of_ble_eq_true rfl) (v := .agg #[.int .i64 t6.f0, .int .i64 t6.f1]) (by kernel_rfl)) ?_
                refine WA.tellD [] (i := 7) (m := 2) (b' := 255) (by kernel_rfl) (NoPanic.then (NoPanic.block (NoPanic.then (NoPanic.then (NoPanic.block (NoPanic.then (NoPanic.then (NoPanic.body)))))))) Under.refl hS (by kernel_rfl) (op := .binOp .eql 23 (.tmp 35) (.tmp 36) 23) (ty := 4) (d := some 37) (g := some (1, false)) (by kernel_rfl) (by kernel_rfl) (by kernel_rfl) (Tells.eqAgg (xs := #[.int .i64 ((l0.getD y22.toNat z23).f0), .int .i64 ((l0.getD y22.toNat z23).f1)]) (ys := #[.int .i64 t6.f0, .int .i64 t6.f1]) (ls := [.int ((l0.getD y22.toNat z23).f0) t6.f0, .int ((l0.getD y22.toNat z23).f1) t6.f1]) (by kernel_rfl) (by kernel_rfl) (by kernel_rfl) eg23) ?_
                refine WA.reput 37 (v := .bool ([.int ((l0.getD y22.toNat z23).f0) t6.f0, .int ((l0.getD y22.toNat z23).f1) t6.f1].all Lf.ok)) (v' := .bool (decide ((l0.getD y22.toNat z23) = t6))) (by kernel_rfl) (by exact (congrArg Value.bool (eqT23 (l0.getD y22.toNat z23) t6))) ?_
                refine WA.pure [8, 9] [0, 1, 5, 6, 7] (m := 0) (b' := 1023) (L' := [(0, .slice Al0 l0.length cl0), (1, .int .i64 a1), (5, .pointer (some ⟨b10, 0, none⟩)), (6, .bool (decide ((l0.getD y22.toNat z23) = t6))), (7, .int .i64 y22)]) (by kernel_rfl) (NoPanic.then (NoPanic.block (NoPanic.then (NoPanic.then (NoPanic.block (NoPanic.then (NoPanic.then (NoPanic.body)))))))) Under.refl hS (by kernel_rfl) ?_
                refine WA.done hS (by kernel_rfl) ?_
                refine QP.pick [0, 1, 5, 6, 7] ?_
                refine QP.pick [0, 1, 5, 6, 7] ?_
                exact QP.meet ⟨_, Option.some.inj h, rfl, rfl, rfl⟩
            · rintro _ _ _ ⟨s26, rfl, rfl, rfl, rfl⟩
              clear h
              replace h := hk27
              rw [Option.bind_eq_some_iff] at h
              obtain ⟨os30, h, hk31⟩ := h
              refine WP.cut (fun L' G' Γ' => ∃ s30 : Bool, s30 = os30 ∧ L' = [(0, .slice Al0 l0.length cl0), (1, .int .i64 a1), (5, .pointer (some ⟨b10, 0, none⟩)), (6, .bool s26), (7, .int .i64 y22), (57, .bool s30)] ∧ G = G' ∧ [(b10, .cells #[.int .i64 t6.f0, .int .i64 t6.f1] 23 (0, 0))] :: Γ = Γ') ?_ ?_
              · clear hk31
                skip
                refine WP.any (N := 19) (S := [⟨some 39, [5], []⟩, ⟨some 40, [0], []⟩, ⟨some 41, [7], []⟩, ⟨some 42, [40, 41], [1, 2]⟩, ⟨some 43, [42], [3]⟩, ⟨some 44, [39, 43], [0, 4]⟩, ⟨some 45, [44], [5]⟩, ⟨some 46, [0, 45], [6]⟩, ⟨some 47, [7, 45], [6]⟩, ⟨some 48, [45, 46, 47], [6, 7, 8]⟩, ⟨some 49, [45, 48], [6, 9]⟩, ⟨some 50, [45, 49], [6, 10]⟩, ⟨some 51, [45, 50], [6, 11]⟩, ⟨some 52, [0, 45], [6]⟩, ⟨some 53, [7, 45], [6]⟩, ⟨some 54, [45, 52, 53], [6, 13, 14]⟩, ⟨some 55, [45, 54], [6, 15]⟩, ⟨some 56, [45, 51, 55], [6, 12, 16]⟩, ⟨some 57, [45, 56], [6, 17]⟩]) (kw := 19) (G0 := G) (Γ0 := [(b10, .cells #[.int .i64 t6.f0, .int .i64 t6.f1] 23 (0, 0))] :: Γ) mo (by kernel_rfl) (fun hS => ?_)
                refine WA.pure [1, 2] [0, 1, 5, 6, 7, 40, 41] (m := 17) (b' := 6) (L' := [(0, .slice Al0 l0.length cl0), (1, .int .i64 a1), (5, .pointer (some ⟨b10, 0, none⟩)), (6, .bool s26), (7, .int .i64 y22), (40, .slice Al0 l0.length cl0), (41, .int .i64 y22)]) (by kernel_rfl) (NoPanic.then (NoPanic.block (NoPanic.then (NoPanic.then (NoPanic.block (NoPanic.then (NoPanic.then (NoPanic.body)))))))) Under.refl hS (by kernel_rfl) ?_
                refine WA.tellD [] (i := 0) (m := 16) (b' := 7) (by kernel_rfl) (NoPanic.then (NoPanic.block (NoPanic.then (NoPanic.then (NoPanic.block (NoPanic.then (NoPanic.then (NoPanic.body)))))))) Under.refl hS (by kernel_rfl) (op := .load 23 (.tmp 5)) (ty := 23) (d := some 39) (g := none) (by kernel_rfl) (by kernel_rfl) (by kernel_rfl) (Tells.load_box (i := 0) (b := b10) (o := 0) (agg := true) (by rfl) ag23 (by kernel_rfl) (fun h => by cases h) (Nat.le_of_ble_eq_true rfl) (v := .agg #[.int .i64 t6.f0, .int .i64 t6.f1]) (by kernel_rfl)) ?_
                by_cases hb32 : 0 ≤ y22 ∧ y22 < (l0.length : Int)
                case neg => rw [if_neg hb32] at h; cases h
                rw [if_pos hb32] at h
                refine WA.tellD [] (i := 3) (m := 15) (b' := 15) (by kernel_rfl) (NoPanic.then (NoPanic.block (NoPanic.then (NoPanic.then (NoPanic.block (NoPanic.then (NoPanic.then (NoPanic.body)))))))) Under.refl hS (by kernel_rfl) (op := .indexAddr 24 (.tmp 40) (.tmp 41)) (ty := 0) (d := some 42) (g := none) (by kernel_rfl) (by kernel_rfl) (by kernel_rfl) (Tells.indexAddr (A := Al0) (n := l0.length) (c := cl0) (k := .i64) (j := y22) (by kernel_rfl) (by kernel_rfl) (Hl0.isSome hb32.1 hb32.2) hb32.1 hb32.2 sl24) ?_
                refine WA.tellDE [] (i := 4) (m := 14) (b' := 31) (by kernel_rfl) (NoPanic.then (NoPanic.block (NoPanic.then (NoPanic.then (NoPanic.block (NoPanic.then (NoPanic.then (NoPanic.body)))))))) Under.refl hS (by kernel_rfl) (op := .load 23 (.tmp 42)) (ty := 23) (d := some 43) (g := none) (by kernel_rfl) (by kernel_rfl) (by kernel_rfl) (Hl0.load (agg := true) hb32.1 hb32.2 z23 ag23 (fun h => by cases h) (by kernel_rfl)) ?_
                rintro _ rfl
                rw [Option.bind_eq_some_iff] at h
                obtain ⟨t33, ht34, h⟩ := h
                refine WA.op (i := 5) (m := 13) (b' := 63) (by kernel_rfl) hS (by kernel_rfl) (op := .call { callee := (.value (.func 20)), args := #[(.tmp 39), (.tmp 43)], argTypes := #[23, 23] }) (ty := 4) (d := some 44) (g := none) (by kernel_rfl) (by kernel_rfl) (by kernel_rfl) (Does.call (f := 20) (args := [.agg #[.int .i64 t6.f0, .int .i64 t6.f1], .agg #[.int .i64 ((l0.getD y22.toNat z23).f0), .int .i64 ((l0.getD y22.toNat z23).f1)]]) (by kernel_rfl) (fun W hI => (stamp_Less_calls t6 (l0.getD y22.toNat z23)  t33 ht34 hI))) ?_
                rintro _ _ _ ⟨rfl, rfl, rfl⟩
                refine ⟨_, _, Under.refl, Under.refl, ?_⟩
                refine WA.pure [6] [0, 1, 5, 6, 7, 45] (m := 12) (b' := 127) (L' := [(0, .slice Al0 l0.length cl0), (1, .int .i64 a1), (5, .pointer (some ⟨b10, 0, none⟩)), (6, .bool s26), (7, .int .i64 y22), (45, .bool t33)]) (by kernel_rfl) (NoPanic.then (NoPanic.block (NoPanic.then (NoPanic.then (NoPanic.block (NoPanic.then (NoPanic.then (NoPanic.body)))))))) Under.refl hS (by kernel_rfl) ?_
                refine WA.split 45 (b := t33) (by kernel_rfl) (fun hc => ?_) (fun hc => ?_)
                · replace hc := hc
                  rw [if_pos hc] at h
                  have hc37 := hc
                  clear hc
                  refine WA.pure [7, 8, 9, 10, 11, 12, 13, 14, 15, 16, 17, 18] [0, 1, 5, 6, 7, 57] (m := 0) (b' := 524287) (L' := [(0, .slice Al0 l0.length cl0), (1, .int .i64 a1), (5, .pointer (some ⟨b10, 0, none⟩)), (6, .bool s26), (7, .int .i64 y22), (57, .bool true)]) (by kernel_rfl) (NoPanic.then (NoPanic.block (NoPanic.then (NoPanic.then (NoPanic.block (NoPanic.then (NoPanic.then (NoPanic.body)))))))) Under.refl hS (by kernel_rfl) ?_
                  refine WA.done hS (by kernel_rfl) ?_
                  refine QP.pick [0, 1, 5, 6, 7, 57] ?_
                  refine QP.pick [0, 1, 5, 6, 7, 57] ?_
                  exact QP.meet ⟨_, Option.some.inj h, rfl, rfl, rfl⟩
                · replace hc := (Bool.eq_false_iff.1 hc)
                  rw [if_neg hc] at h
                  have hc37 := hc
                  clear hc
                  refine WA.pure [7, 8, 13, 14] [0, 1, 5, 6, 7, 45, 46, 47, 52, 53] (m := 8) (b' := 25087) (L' := [(0, .slice Al0 l0.length cl0), (1, .int .i64 a1), (5, .pointer (some ⟨b10, 0, none⟩)), (6, .bool s26), (7, .int .i64 y22), (45, .bool false), (46, .slice Al0 l0.length cl0), (47, .int .i64 y22), (52, .slice Al0 l0.length cl0), (53, .int .i64 y22)]) (by kernel_rfl) (NoPanic.then (NoPanic.block (NoPanic.then (NoPanic.then (NoPanic.block (NoPanic.then (NoPanic.then (NoPanic.body)))))))) Under.refl hS (by kernel_rfl) ?_
                  by_cases hb38 : 0 ≤ y22 ∧ y22 < (l0.length : Int)
                  case neg => rw [if_neg hb38] at h; cases h
                  rw [if_pos hb38] at h
                  refine WA.tellD [] (i := 9) (m := 7) (b' := 25599) (by kernel_rfl) (NoPanic.then (NoPanic.block (NoPanic.then (NoPanic.then (NoPanic.block (NoPanic.then (NoPanic.then (NoPanic.body)))))))) Under.refl hS (by kernel_rfl) (op := .indexAddr 24 (.tmp 46) (.tmp 47)) (ty := 0) (d := some 48) (g := some (6, false)) (by kernel_rfl) (by kernel_rfl) (by kernel_rfl) (Tells.indexAddr (A := Al0) (n := l0.length) (c := cl0) (k := .i64) (j := y22) (by kernel_rfl) (by kernel_rfl) (Hl0.isSome hb38.1 hb38.2) hb38.1 hb38.2 sl24) ?_
                  refine WA.tellDE [] (i := 10) (m := 6) (b' := 26623) (by kernel_rfl) (NoPanic.then (NoPanic.block (NoPanic.then (NoPanic.then (NoPanic.block (NoPanic.then (NoPanic.then (NoPanic.body)))))))) Under.refl hS (by kernel_rfl) (op := .load 23 (.tmp 48)) (ty := 23) (d := some 49) (g := some (6, false)) (by kernel_rfl) (by kernel_rfl) (by kernel_rfl) (Hl0.load (agg := true) hb38.1 hb38.2 z23 ag23 (fun h => by cases h) (by kernel_rfl)) ?_
                  rintro _ rfl
                  by_cases hb39 : 0 ≤ y22 ∧ y22 < (l0.length : Int)
                  case neg => rw [if_neg hb39] at h; cases h
                  rw [if_pos hb39] at h
                  refine WA.tellD [] (i := 15) (m := 5) (b' := 59391) (by kernel_rfl) (NoPanic.then (NoPanic.block (NoPanic.then (NoPanic.then (NoPanic.block (NoPanic.then (NoPanic.then (NoPanic.body)))))))) Under.refl hS (by kernel_rfl) (op := .indexAddr 24 (.tmp 52) (.tmp 53)) (ty := 0) (d := some 54) (g := some (6, false)) (by kernel_rfl) (by kernel_rfl) (by kernel_rfl) (Tells.indexAddr (A := Al0) (n := l0.length) (c := cl0) (k := .i64) (j := y22) (by kernel_rfl) (by kernel_rfl) (Hl0.isSome hb39.1 hb39.2) hb39.1 hb39.2 sl24) ?_
                  refine WA.tellDE [] (i := 16) (m := 4) (b' := 124927) (by kernel_rfl) (NoPanic.then (NoPanic.block (NoPanic.then (NoPanic.then (NoPanic.block (NoPanic.then (NoPanic.then (NoPanic.body)))))))) Under.refl hS (by kernel_rfl) (op := .load 23 (.tmp 54)) (ty := 23) (d := some 55) (g := some (6, false)) (by kernel_rfl) (by kernel_rfl) (by kernel_rfl) (Hl0.load (agg := true) hb39.1 hb39.2 z23 ag23 (fun h => by cases h) (by kernel_rfl)) ?_
                  rintro _ rfl
                  refine WA.op (i := 11) (m := 3) (b' := 126975) (by kernel_rfl) hS (by kernel_rfl) (op := .buildSlice 24 1 #[(0, (.tmp 49))]) (ty := 24) (d := some 50) (g := some (6, false)) (by kernel_rfl) (by kernel_rfl) (by kernel_rfl) (Does.new (o := .cells #[.int .i64 ((l0.getD y22.toNat z23).f0), .int .i64 ((l0.getD y22.toNat z23).f1)] 23 (0, 0)) (v := fun r => .slice (some ⟨r, 0, none⟩) 1 1) (fun r => by kernel_rfl)) ?_
                  rintro _ _ _ ⟨b40, rfl, rfl, rfl⟩
                  refine ⟨_, _, Under.cons Under.refl, Under.refl, ?_⟩
                  have Ho42 : Ow k23 G (some ⟨b40, 0, none⟩) 1 ([(l0.getD y22.toNat z23)] : List T23) [(b40, .cells #[.int .i64 ((l0.getD y22.toNat z23).f0), .int .i64 ((l0.getD y22.toNat z23).f1)] 23 (0, 0))] := Ow.lit (kd := k23) (G := G) (b := b40) (T := 23) (xs := ([(l0.getD y22.toNat z23)] : List T23)) (cs := [.int .i64 ((l0.getD y22.toNat z23).f0), .int .i64 ((l0.getD y22.toNat z23).f1)]) (.cons (x := (l0.getD y22.toNat z23)) (cs := [.int .i64 ((l0.getD y22.toNat z23).f0), .int .i64 ((l0.getD y22.toNat z23).f1)]) (by exact rfl) .nil)
                  rw [Option.bind_eq_some_iff] at h
                  obtain ⟨t43, ht44, h⟩ := h
                  refine WA.op (i := 12) (m := 2) (b' := 131071) (by kernel_rfl) hS (by kernel_rfl) (op := .call { callee := (.value (.func 22)), args := #[(.tmp 50)], argTypes := #[24] }) (ty := 23) (d := some 51) (g := some (6, false)) (by kernel_rfl) (by kernel_rfl) (by kernel_rfl) (Does.call (Φ := fun v' G' Γ' => v' = .agg #[.int .i64 t43.f0, .int .i64 t43.f1] ∧ G = G' ∧ [(b40, .cells #[.int .i64 ((l0.getD y22.toNat z23).f0), .int .i64 ((l0.getD y22.toNat z23).f1)] 23 (0, 0))] :: [(b10, .cells #[.int .i64 t6.f0, .int .i64 t6.f1] 23 (0, 0))] :: Γ = Γ') (f := 22) (args := [.slice (some ⟨b40, 0, none⟩) ([(l0.getD y22.toNat z23)] : List T23).length 1]) (by kernel_rfl) (fun W hI => (Calls.lendH (Φ := fun v' N => v' = .agg #[.int .i64 t43.f0, .int .i64 t43.f1] ∧ N = []) (H := []) (i := 0) rfl (Ow.nodup Ho42) hI (fun _ e l47 hI => by subst e; exact (((stamp_Max_calls k24 ([(l0.getD y22.toNat z23)] : List T23) (some ⟨b40, 0, none⟩) 1 (Ho42.rd l47) t43 ht44 hI)).mono fun _ _ hr => by obtain ⟨_, _, _, rfl, hd, hI⟩ := hr; obtain ⟨rfl, rfl, rfl⟩ := hd; exact ⟨_, _, _, rfl, ⟨[], ⟨rfl, rfl⟩, rfl, rfl⟩, hI⟩))).mono fun _ _ hr => by obtain ⟨_, _, _, rfl, ⟨_, hd, rfl, rfl⟩, hI⟩ := hr; obtain ⟨rfl, rfl⟩ := hd; exact ⟨_, _, _, rfl, ⟨rfl, rfl, rfl⟩, hI⟩)) ?_
                  rintro _ _ _ ⟨rfl, rfl, rfl⟩
                  refine ⟨_, _, Under.refl, Under.refl, ?_⟩
                  refine WA.tellD [] (i := 17) (m := 1) (b' := 262143) (by kernel_rfl) (NoPanic.then (NoPanic.block (NoPanic.then (NoPanic.then (NoPanic.block (NoPanic.then (NoPanic.then (NoPanic.body)))))))) Under.refl hS (by kernel_rfl) (op := .binOp .neq 23 (.tmp 51) (.tmp 55) 23) (ty := 4) (d := some 56) (g := some (6, false)) (by kernel_rfl) (by kernel_rfl) (by kernel_rfl) (Tells.neAgg (xs := #[.int .i64 t43.f0, .int .i64 t43.f1]) (ys := #[.int .i64 ((l0.getD y22.toNat z23).f0), .int .i64 ((l0.getD y22.toNat z23).f1)]) (ls := [.int t43.f0 ((l0.getD y22.toNat z23).f0), .int t43.f1 ((l0.getD y22.toNat z23).f1)]) (by kernel_rfl) (by kernel_rfl) (by kernel_rfl) eg23) ?_
                  refine WA.reput 56 (v := .bool (!([.int t43.f0 ((l0.getD y22.toNat z23).f0), .int t43.f1 ((l0.getD y22.toNat z23).f1)].all Lf.ok))) (v' := .bool (!decide (t43 = (l0.getD y22.toNat z23)))) (by kernel_rfl) (by exact (congrArg (fun z => Value.bool (!z)) (eqT23 t43 (l0.getD y22.toNat z23)))) ?_
                  refine WA.pure [18] [0, 1, 5, 6, 7, 57] (m := 0) (b' := 524287) (L' := [(0, .slice Al0 l0.length cl0), (1, .int .i64 a1), (5, .pointer (some ⟨b10, 0, none⟩)), (6, .bool s26), (7, .int .i64 y22), (57, .bool (!decide (t43 = (l0.getD y22.toNat z23))))]) (by kernel_rfl) (NoPanic.then (NoPanic.block (NoPanic.then (NoPanic.then (NoPanic.block (NoPanic.then (NoPanic.then (NoPanic.body)))))))) Under.refl hS (by kernel_rfl) ?_
                  refine WA.done hS (by kernel_rfl) ?_
                  refine QP.pick [0, 1, 5, 6, 7, 57] ?_
                  refine QP.dropAt 0 ?_
                  refine QP.pick [0, 1, 5, 6, 7, 57] ?_
                  exact QP.meet ⟨_, Option.some.inj h, rfl, rfl, rfl⟩
              · rintro _ _ _ ⟨s30, rfl, rfl, rfl, rfl⟩
                clear h
                replace h := hk31
                refine WP.cond (b := s30) (by kernel_rfl) (fun hc => ?_) (fun hc => ?_)
                · replace hc := hc
                  rw [if_pos hc] at h
                  have hc48 := hc
                  clear hc
                  refine WP.seqP [4] (L' := [(4, .bool false)]) (by kernel_rfl) ?_
                  refine WP.dropAt 0 ?_
                  refine WP.ret ?_
                  refine QP.blockR ?_
                  refine QP.thenR ?_
                  refine QP.thenR ?_
                  refine QP.blockR ?_
                  refine QP.thenR ?_
                  refine QP.thenR ?_
                  obtain rfl := Option.some.inj h
                  obtain rfl := Option.some.inj (show some _ = some _ from hk20)
                  exact QP.returned [4] [.bool false] _ (by kernel_rfl) (by kernel_rfl) (by kernel_rfl) (fun W hI => ⟨_, _, _, rfl, ⟨rfl, rfl, rfl⟩, hI⟩)
                · replace hc := (Bool.eq_false_iff.1 hc)
                  rw [if_neg hc] at h
                  have hc48 := hc
                  clear hc
                  refine WP.skip ?_
                  refine QP.blockN ?_
                  refine QP.next ?_
                  refine WP.pick [0, 1, 5, 6, 7] ?_
                  refine WP.regionP [0, 1, 5, 6, 7] (L' := [(0, .slice Al0 l0.length cl0), (1, .int .i64 a1), (5, .pointer (some ⟨b10, 0, none⟩)), (6, .bool s26), (7, .int .i64 (IntKind.i64.wrap (y22 + 1)))]) (by kernel_rfl) ?_
                  refine QP.pick [0, 1, 5, 6, 7] ?_
                  exact QP.meet ⟨k24, Nat.lt_succ_self _, s26, (IntKind.i64.wrap (y22 + 1)), h, rfl, rfl, rfl⟩
          · replace hc := of_decide_eq_false hc
            rw [if_neg hc] at h
            have hc25 := hc
            clear hc
            refine WP.exit ?_
            refine QP.thenE ?_
            refine QP.thenE ?_
            refine QP.blockE ?_
            refine QP.pick [0, 1, 5, 6] ?_
            exact QP.meet ⟨_, Option.some.inj h, rfl, rfl, rfl⟩
      · rintro _ _ _ ⟨s19, rfl, rfl, rfl, rfl⟩
        clear h
        replace h := hk20
        refine QP.next ?_
        refine WP.pick [0, 1, 5, 6] ?_
        refine WP.seqR ?_
        refine WL.pure 0 3 [0, 1, 5, 6, 58, 60] (L' := [(0, .slice Al0 l0.length cl0), (1, .int .i64 a1), (5, .pointer (some ⟨b10, 0, none⟩)), (6, .bool s19), (58, .int .i64 a1), (60, .int .i64 (l0.length : Int))]) (by kernel_rfl) (by decide) ?_
        rw [Option.bind_eq_some_iff] at h
        obtain ⟨t49, ht50, h⟩ := h
        refine WL.op (op := .call { callee := (.value (.func 31)), args := #[(.tmp 58), (.tmp 60)], argTypes := #[3, 3] }) (ty := 3) (d := some 61) (g := none) (by kernel_rfl) (by kernel_rfl) (by kernel_rfl) (Does.call (f := 31) (args := [.int .i64 a1, .int .i64 (l0.length : Int)]) (by kernel_rfl) (fun W hI => (grapevinelaw0_Low_calls a1 (l0.length : Int)  t49 ht50 hI))) ?_
        rintro _ _ _ ⟨rfl, rfl, rfl⟩
        refine WL.restQ 4 [0, 1, 5, 6] (L' := [(0, .slice Al0 l0.length cl0), (1, .int .i64 t49), (5, .pointer (some ⟨b10, 0, none⟩)), (6, .bool s19)]) (by kernel_rfl) ?_
        refine WP.seq ?_
        refine WP.any (N := 9) (S := [⟨some 62, [0], []⟩, ⟨some 63, [1], []⟩, ⟨some 64, [62, 63], [0, 1]⟩, ⟨some 65, [64], [2]⟩, ⟨some 66, [0], []⟩, ⟨some 67, [1], []⟩, ⟨some 68, [66, 67], [4, 5]⟩, ⟨some 69, [65, 68], [3, 6]⟩, ⟨some 8, [69], [0, 1, 2, 3, 4, 5, 6, 7]⟩]) (kw := 3) (G0 := G) (Γ0 := [(b10, .cells #[.int .i64 t6.f0, .int .i64 t6.f1] 23 (0, 0))] :: Γ) mo (by kernel_rfl) (fun hS => ?_)
        refine WA.pure [0, 1, 4, 5] [5, 6, 62, 63, 66, 67] (m := 5) (b' := 51) (L' := [(5, .pointer (some ⟨b10, 0, none⟩)), (6, .bool s19), (62, .slice Al0 l0.length cl0), (63, .int .i64 t49), (66, .slice Al0 l0.length cl0), (67, .int .i64 t49)]) (by kernel_rfl) (NoPanic.then (NoPanic.body)) Under.refl hS (by kernel_rfl) ?_
        by_cases hb53 : 0 ≤ t49 ∧ t49 ≤ (l0.length : Int) ∧ (l0.length : Int) ≤ (l0.length : Int)
        case neg => rw [if_neg hb53] at h; cases h
        rw [if_pos hb53] at h
        refine WA.tellDS [3] (i := 2) (m := 4) (b' := 55) (by kernel_rfl) (NoPanic.then (NoPanic.body)) Under.refl hS (by kernel_rfl) (op := .slice 24 (.tmp 62) (some (.tmp 63)) none none) (ty := 24) (d := some 64) (g := none) (by kernel_rfl) (by kernel_rfl) (by kernel_rfl) (Hl0.slice (l := t49) (h := (l0.length : Int)) (by kernel_rfl) ⟨.i64, by kernel_rfl⟩ rfl hb53.1 hb53.2.1 hb53.2.2 sl24) ?_
        rintro AP54 cP54 HP54
        by_cases hb55 : 0 ≤ (0 : Int) ∧ (0 : Int) ≤ t49 ∧ t49 ≤ (l0.length : Int)
        case neg => rw [if_neg hb55] at h; cases h
        rw [if_pos hb55] at h
        refine WA.tellSW (i := 6) (m := 3) (b' := 119) (by kernel_rfl) (NoPanic.then (NoPanic.body)) Under.refl hS (by kernel_rfl) (op := .slice 24 (.tmp 66) none (some (.tmp 67)) none) (ty := 24) (d := some 68) (g := none) (by kernel_rfl) (by kernel_rfl) (by kernel_rfl) (Hl0.sliceW (l := 0) (h := t49) (by kernel_rfl) rfl ⟨.i64, by kernel_rfl⟩ hb55.1 hb55.2.1 hb55.2.2 sl24) ?_
        rintro AP56 cP56 HP56
        refine WA.addNil ?_
        by_cases hb57 : ([] : List T23).length + ((l0.take (l0.length : Int).toNat).drop t49.toNat).length ≤ 1073741824
        case neg => rw [if_neg hb57] at h; cases h
        rw [if_pos hb57] at h
        refine WA.opK (i := 3) (kw' := 7) (m := 2) (b' := 127) (by kernel_rfl) rfl hS (by kernel_rfl) (op := .call { callee := (.builtin .append), args := #[(.const (.slice none 0 0)), (.tmp 64)], argTypes := #[24, 24] }) (ty := 24) (d := some 65) (g := none) (by kernel_rfl) (by kernel_rfl) (by kernel_rfl) (Ow.append (ys := ((l0.take (l0.length : Int).toNat).drop t49.toNat)) (v := .slice AP54 ((l0.take (l0.length : Int).toNat).drop t49.toNat).length cP54) (Ow.nil k23 G) (i := 0) rfl (by kernel_rfl) (by kernel_rfl) HP54.src sl24 ze23 nt24 (by decide) hb57) ?_
        rintro _ _ _ ⟨rfl, AN58, cN58, CN58, rfl, HN58, rfl⟩
        refine ⟨_, _, Under.refl, ?_⟩
        by_cases hb59 : (([] : List T23) ++ ((l0.take (l0.length : Int).toNat).drop t49.toNat)).length + ((l0.take t49.toNat).drop (0 : Int).toNat).length ≤ 1073741824
        case neg => rw [if_neg hb59] at h; cases h
        rw [if_pos hb59] at h
        refine WA.opK (i := 7) (kw' := 9) (m := 1) (b' := 255) (by kernel_rfl) rfl hS (by kernel_rfl) (op := .call { callee := (.builtin .append), args := #[(.tmp 65), (.tmp 68)], argTypes := #[24, 24] }) (ty := 24) (d := some 69) (g := none) (by kernel_rfl) (by kernel_rfl) (by kernel_rfl) (Ow.append (ys := ((l0.take t49.toNat).drop (0 : Int).toNat)) (v := .slice AP56 ((l0.take t49.toNat).drop (0 : Int).toNat).length cP56) HN58 (i := 0) rfl (by kernel_rfl) (by kernel_rfl) HP56.src sl24 ze23 nt24 (by decide) hb59) ?_
        rintro _ _ _ ⟨rfl, AN60, cN60, CN60, rfl, HN60, rfl⟩
        refine ⟨_, _, Under.refl, ?_⟩
        refine WA.pure [8] [5, 6, 8] (m := 0) (b' := 511) (L' := [(5, .pointer (some ⟨b10, 0, none⟩)), (6, .bool s19), (8, .slice AN60 ((([] : List T23) ++ ((l0.take (l0.length : Int).toNat).drop t49.toNat)) ++ ((l0.take t49.toNat).drop (0 : Int).toNat)).length cN60)]) (by kernel_rfl) (NoPanic.then (NoPanic.body)) Under.refl hS (by kernel_rfl) ?_
        refine WA.done hS (by kernel_rfl) ?_
        refine QP.pick [5, 6, 8] ?_
        refine QP.next ?_
        obtain ⟨v61, hv62, h⟩ := Option.bind_eq_some_iff.1 h
        replace hv62 := Option.some.inj hv62
        have Hn63 := HN60
        rw [hv62] at Hn63
        refine WP.reput 8 (v := .slice AN60 ((([] : List T23) ++ ((l0.take (l0.length : Int).toNat).drop t49.toNat)) ++ ((l0.take t49.toNat).drop (0 : Int).toNat)).length cN60) (v' := .slice AN60 v61.length cN60) (by kernel_rfl) (by subst hv62; rfl) ?_
        refine WP.pick [5, 6, 8] ?_
        rw [Option.bind_eq_some_iff] at h
        obtain ⟨os64, h, hk65⟩ := h
        refine WP.cut (fun L' G' Γ' => ∃ s64 : Bool, s64 = os64 ∧ L' = [(4, .bool s64)] ∧ G = G' ∧ CN60 :: [(b10, .cells #[.int .i64 t6.f0, .int .i64 t6.f1] 23 (0, 0))] :: Γ = Γ') ?_ ?_
        · clear hk65
          skip
          refine WP.any (N := 11) (S := [⟨some 70, [6], []⟩, ⟨some 71, [70], [0]⟩, ⟨some 72, [8, 71], [1]⟩, ⟨some 73, [71, 72], [1, 2]⟩, ⟨some 74, [5, 71], [1]⟩, ⟨some 75, [71, 73, 74], [1, 3, 4]⟩, ⟨some 76, [71, 75], [1, 5]⟩, ⟨some 77, [76], [3, 6]⟩, ⟨some 78, [77], [7]⟩, ⟨some 79, [77, 78], [7, 8]⟩, ⟨some 4, [79], [0, 1, 2, 3, 4, 5, 6, 7, 8, 9]⟩]) (kw := 11) (G0 := G) (Γ0 := CN60 :: [(b10, .cells #[.int .i64 t6.f0, .int .i64 t6.f1] 23 (0, 0))] :: Γ) mo (by kernel_rfl) (fun hS => ?_)
          refine WA.pure [0, 1] [5, 8, 71] (m := 9) (b' := 3) (L' := [(5, .pointer (some ⟨b10, 0, none⟩)), (8, .slice AN60 v61.length cN60), (71, .bool s19)]) (by kernel_rfl) (NoPanic.then (NoPanic.body)) Under.refl hS (by kernel_rfl) ?_
          refine WA.split 71 (b := s19) (by kernel_rfl) (fun hc => ?_) (fun hc => ?_)
          · replace hc := hc
            rw [if_pos hc] at h
            have hc66 := hc
            clear hc
            refine WA.pure [2] [5, 71, 72] (m := 8) (b' := 7) (L' := [(5, .pointer (some ⟨b10, 0, none⟩)), (71, .bool true), (72, .slice AN60 v61.length cN60)]) (by kernel_rfl) (NoPanic.then (NoPanic.body)) Under.refl hS (by kernel_rfl) ?_
            refine WA.tellD [] (i := 4) (m := 7) (b' := 23) (by kernel_rfl) (NoPanic.then (NoPanic.body)) Under.refl hS (by kernel_rfl) (op := .load 23 (.tmp 5)) (ty := 23) (d := some 74) (g := some (1, true)) (by kernel_rfl) (by kernel_rfl) (by kernel_rfl) (Tells.load_box (i := 1) (b := b10) (o := 0) (agg := true) (by rfl) ag23 (by kernel_rfl) (fun h => by cases h) (Nat.le_of_ble_eq_true rfl) (v := .agg #[.int .i64 t6.f0, .int .i64 t6.f1]) (by kernel_rfl)) ?_
            rw [Option.bind_eq_some_iff] at h
            obtain ⟨t67, ht68, h⟩ := h
            refine WA.op (i := 3) (m := 6) (b' := 31) (by kernel_rfl) hS (by kernel_rfl) (op := .call { callee := (.value (.func 22)), args := #[(.tmp 72)], argTypes := #[24] }) (ty := 23) (d := some 73) (g := some (1, true)) (by kernel_rfl) (by kernel_rfl) (by kernel_rfl) (Does.call (Φ := fun v' G' Γ' => v' = .agg #[.int .i64 t67.f0, .int .i64 t67.f1] ∧ G = G' ∧ CN60 :: [(b10, .cells #[.int .i64 t6.f0, .int .i64 t6.f1] 23 (0, 0))] :: Γ = Γ') (f := 22) (args := [.slice AN60 v61.length cN60]) (by kernel_rfl) (fun W hI => (Calls.lendH (Φ := fun v' N => v' = .agg #[.int .i64 t67.f0, .int .i64 t67.f1] ∧ N = []) (H := []) (i := 0) rfl (Ow.nodup Hn63) hI (fun _ e l71 hI => by subst e; exact (((stamp_Max_calls k v61 AN60 cN60 (Hn63.rd l71) t67 ht68 hI)).mono fun _ _ hr => by obtain ⟨_, _, _, rfl, hd, hI⟩ := hr; obtain ⟨rfl, rfl, rfl⟩ := hd; exact ⟨_, _, _, rfl, ⟨[], ⟨rfl, rfl⟩, rfl, rfl⟩, hI⟩))).mono fun _ _ hr => by obtain ⟨_, _, _, rfl, ⟨_, hd, rfl, rfl⟩, hI⟩ := hr; obtain ⟨rfl, rfl⟩ := hd; exact ⟨_, _, _, rfl, ⟨rfl, rfl, rfl⟩, hI⟩)) ?_
            rintro _ _ _ ⟨rfl, rfl, rfl⟩
            refine ⟨_, _, Under.refl, Under.refl, ?_⟩
            refine WA.tellD [] (i := 5) (m := 5) (b' := 63) (by kernel_rfl) (NoPanic.then (NoPanic.body)) Under.refl hS (by kernel_rfl) (op := .binOp .eql 23 (.tmp 73) (.tmp 74) 23) (ty := 4) (d := some 75) (g := some (1, true)) (by kernel_rfl) (by kernel_rfl) (by kernel_rfl) (Tells.eqAgg (xs := #[.int .i64 t67.f0, .int .i64 t67.f1]) (ys := #[.int .i64 t6.f0, .int .i64 t6.f1]) (ls := [.int t67.f0 t6.f0, .int t67.f1 t6.f1]) (by kernel_rfl) (by kernel_rfl) (by kernel_rfl) eg23) ?_
            refine WA.reput 75 (v := .bool ([.int t67.f0 t6.f0, .int t67.f1 t6.f1].all Lf.ok)) (v' := .bool (decide (t67 = t6))) (by kernel_rfl) (by exact (congrArg Value.bool (eqT23 t67 t6))) ?_
            refine WA.pure [6, 7] [77] (m := 3) (b' := 255) (L' := [(77, .bool (decide (t67 = t6)))]) (by kernel_rfl) (NoPanic.then (NoPanic.body)) Under.refl hS (by kernel_rfl) ?_
            refine WA.split 77 (b := decide (t67 = t6)) (by kernel_rfl) (fun hc => ?_) (fun hc => ?_)
            · replace hc := of_decide_eq_true hc
              rw [if_pos hc] at h
              have hc72 := hc
              clear hc
              rw [Option.bind_eq_some_iff] at h
              obtain ⟨t73, ht74, h⟩ := h
              refine WA.op (i := 8) (m := 2) (b' := 511) (by kernel_rfl) hS (by kernel_rfl) (op := .call { callee := (.value (.func 17)), args := #[], argTypes := #[] }) (ty := 4) (d := some 78) (g := some (7, true)) (by kernel_rfl) (by kernel_rfl) (by kernel_rfl) (Does.call (f := 17) (args := []) (by kernel_rfl) (fun W hI => (grapevinelaw2_awake_calls k   t73 ht74 hI))) ?_
              rintro _ _ _ ⟨rfl, rfl, rfl⟩
              refine ⟨_, _, Under.refl, Under.refl, ?_⟩
              refine WA.pure [9, 10] [4] (m := 0) (b' := 2047) (L' := [(4, .bool t73)]) (by kernel_rfl) (NoPanic.then (NoPanic.body)) Under.refl hS (by kernel_rfl) ?_
              refine WA.done hS (by kernel_rfl) ?_
              refine QP.pick [4] ?_
              refine QP.pick [4] ?_
              exact QP.meet ⟨_, Option.some.inj h, rfl, rfl, rfl⟩
            · replace hc := of_decide_eq_false hc
              rw [if_neg hc] at h
              have hc72 := hc
              clear hc
              refine WA.pure [8, 9, 10] [4] (m := 0) (b' := 2047) (L' := [(4, .bool false)]) (by kernel_rfl) (NoPanic.then (NoPanic.body)) Under.refl hS (by kernel_rfl) ?_
              refine WA.done hS (by kernel_rfl) ?_
              refine QP.pick [4] ?_
              refine QP.pick [4] ?_
              exact QP.meet ⟨_, Option.some.inj h, rfl, rfl, rfl⟩
          · replace hc := (Bool.eq_false_iff.1 hc)
            rw [if_neg hc] at h
            have hc66 := hc
            clear hc
            refine WA.pure [2, 3, 4, 5, 6, 7, 8, 9, 10] [4] (m := 0) (b' := 2047) (L' := [(4, .bool false)]) (by kernel_rfl) (NoPanic.then (NoPanic.body)) Under.refl hS (by kernel_rfl) ?_
            refine WA.done hS (by kernel_rfl) ?_
            refine QP.pick [4] ?_
            refine QP.pick [4] ?_
            exact QP.meet ⟨_, Option.some.inj h, rfl, rfl, rfl⟩
        · rintro _ _ _ ⟨s64, rfl, rfl, rfl, rfl⟩
          clear h
          replace h := hk65
          refine WP.ret ?_
          obtain rfl := Option.some.inj h
          refine QP.dropAt 1 ?_
          refine QP.dropAt 0 ?_
          exact QP.returned [4] [.bool s64] _ (by kernel_rfl) (by kernel_rfl) (by kernel_rfl) (fun W hI => ⟨_, _, _, rfl, ⟨rfl, rfl, rfl⟩, hI⟩)
/-- The plain law. -/
def StampMost_Pure : Prop := ∀ (l0 : List T23) (a1 : Int), (l0.length ≤ maxLen ∧ ∀ z0 ∈ l0, ((Lit.int .i64 z0.f0).wf = true ∧ (Lit.int .i64 z0.f1).wf = true)) → (Lit.int .i64 a1).wf = true → ∃ k, grapevinelaw2_StampMost k l0 a1 = some true
end Go.Proofs.Ytmphcmgbognmnaa.Gf
