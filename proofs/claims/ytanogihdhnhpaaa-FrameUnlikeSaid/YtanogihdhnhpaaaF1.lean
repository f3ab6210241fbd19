/- Walks of Go functions: what each tells, as a plain Lean function, and that the Go code comes to it. Written by gg.py of this repo. -/
import Derived.Test.YtanogihdhnhpaaaT
import Derived.Test.YtanogihdhnhpaaaF0
namespace Go.Proofs.Ytanogihdhnhpaaa.Gf
open Go Go.Gg
set_option maxRecDepth 100000
set_option linter.unusedVariables false
set_option linter.unusedSimpArgs false

/-! ### grapevine/grapevineref4.Get: function 36 -/
def grapevineref4_Get_l0 (l0 : List Int) (a1 : Int) (a2 : Int) : Nat → Int → Int → Option Int
  | 0, _, _ => none
  | k + 1, y8, y9 => (if y9 < a2 then (if 0 ≤ (IntKind.i64.wrap (a1 + y9)) ∧ (IntKind.i64.wrap (a1 + y9)) < (l0.length : Int) then grapevineref4_Get_l0 l0 a1 a2 k (IntKind.i64.wrap ((IntKind.i64.wrap (y8 * 256)) + (IntKind.i64.wrap (l0.getD (IntKind.i64.wrap (a1 + y9)).toNat 0)))) (IntKind.i64.wrap (y9 + 1)) else none) else some y8)
def grapevineref4_Get (k : Nat) (l0 : List Int) (a1 : Int) (a2 : Int) : Option (Int × Bool) := ((if a1 < 0 then some true else (if a2 > (l0.length : Int) then some true else some (decide (a1 > (IntKind.i64.wrap ((l0.length : Int) - a2)))))).bind fun s1 => (if s1 = true then some (0, false) else ((grapevineref4_Get_l0 l0 a1 a2 k 0 0).bind fun s6 => some (s6, true))))
set_option maxHeartbeats 4000000 in
theorem grapevineref4_Get_calls {B : World} {G : GMap} {Γ : List Chunk} {W : World} (k : Nat) (l0 : List Int) (a1 : Int) (a2 : Int) (Al0 : Option Addr) (cl0 : Nat) (Hl0 : Rd (kInt .u8) G Al0 cl0 l0) (r : Int × Bool) (h : grapevineref4_Get k l0 a1 a2 = some r) (hI : Inv B G (Γ) W) :
    Calls Try.prog 36 [.slice Al0 l0.length cl0, .int .i64 a1, .int .i64 a2].toArray W (Ret B (fun v G' Γ' => v = .tuple #[.int .i64 r.1, .bool r.2] ∧ G = G' ∧ Γ = Γ')) := by
  refine calls_WP (Γ := Γ) (G := G) (B := B) Try.func36 rfl (by kernel_rfl) ?_ hI
  clear hI
  unfold grapevineref4_Get at h
  refine WP.seqP [0, 1, 2] (L' := [(0, .slice Al0 l0.length cl0), (1, .int .i64 a1), (2, .int .i64 a2)]) (by kernel_rfl) ?_
  refine WP.seq ?_
  rw [Option.bind_eq_some_iff] at h
  obtain ⟨os1, h, hk2⟩ := h
  refine WP.cut (fun L' G' Γ' => ∃ s1 : Bool, s1 = os1 ∧ L' = [(0, .slice Al0 l0.length cl0), (1, .int .i64 a1), (2, .int .i64 a2), (25, .bool s1)] ∧ G = G' ∧ Γ = Γ') ?_ ?_
  · clear hk2
    refine WP.region ?_
    refine WL.pure 0 3 [0, 1, 2, 12] (L' := [(0, .slice Al0 l0.length cl0), (1, .int .i64 a1), (2, .int .i64 a2), (12, .bool (decide (a1 < 0)))]) (by kernel_rfl) (by decide) ?_
    refine WL.split 12 (b := decide (a1 < 0)) (by kernel_rfl) (fun hc => ?_) (fun hc => ?_)
    · replace hc := of_decide_eq_true hc
      rw [if_pos hc] at h
      have hc3 := hc
      clear hc
      refine WL.rest 3 [0, 1, 2, 25] (L' := [(0, .slice Al0 l0.length cl0), (1, .int .i64 a1), (2, .int .i64 a2), (25, .bool true)]) (by kernel_rfl) ?_
      refine QP.pick [0, 1, 2, 25] ?_
      exact QP.meet ⟨_, Option.some.inj h, rfl, rfl, rfl⟩
    · replace hc := of_decide_eq_false hc
      rw [if_neg hc] at h
      have hc3 := hc
      clear hc
      refine WL.pure 3 9 [0, 1, 2, 18] (L' := [(0, .slice Al0 l0.length cl0), (1, .int .i64 a1), (2, .int .i64 a2), (18, .bool (decide (a2 > (l0.length : Int))))]) (by kernel_rfl) (by decide) ?_
      refine WL.split 18 (b := decide (a2 > (l0.length : Int))) (by kernel_rfl) (fun hc => ?_) (fun hc => ?_)
      · replace hc := of_decide_eq_true hc
        rw [if_pos hc] at h
        have hc4 := hc
        clear hc
        refine WL.rest 9 [0, 1, 2, 25] (L' := [(0, .slice Al0 l0.length cl0), (1, .int .i64 a1), (2, .int .i64 a2), (25, .bool true)]) (by kernel_rfl) ?_
        refine QP.pick [0, 1, 2, 25] ?_
        exact QP.meet ⟨_, Option.some.inj h, rfl, rfl, rfl⟩
      · replace hc := of_decide_eq_false hc
        rw [if_neg hc] at h
        have hc4 := hc
        clear hc
        refine WL.rest 9 [0, 1, 2, 25] (L' := [(0, .slice Al0 l0.length cl0), (1, .int .i64 a1), (2, .int .i64 a2), (25, .bool (decide (a1 > (IntKind.i64.wrap ((l0.length : Int) - a2)))))]) (by kernel_rfl) ?_
        refine QP.pick [0, 1, 2, 25] ?_
        exact QP.meet ⟨_, Option.some.inj h, rfl, rfl, rfl⟩
  · rintro _ _ _ ⟨s1, rfl, rfl, rfl, rfl⟩
    clear h
    replace h := hk2
    refine WP.cond (b := s1) (by kernel_rfl) (fun hc => ?_) (fun hc => ?_)
    · replace hc := hc
      rw [if_pos hc] at h
      have hc5 := hc
      clear hc
      refine WP.seqP [6, 7] (L' := [(6, .int .i64 0), (7, .bool false)]) (by kernel_rfl) ?_
      refine WP.ret ?_
      refine QP.thenR ?_
      obtain rfl := Option.some.inj h
      exact QP.returned [6, 7] [.int .i64 0, .bool false] _ (by kernel_rfl) (by kernel_rfl) (by kernel_rfl) (fun W hI => ⟨_, _, _, rfl, ⟨rfl, rfl, rfl⟩, hI⟩)
    · replace hc := (Bool.eq_false_iff.1 hc)
      rw [if_neg hc] at h
      have hc5 := hc
      clear hc
      refine WP.skip ?_
      refine QP.next ?_
      refine WP.pick [0, 1, 2] ?_
      refine WP.seqP [0, 1, 2, 8] (L' := [(0, .slice Al0 l0.length cl0), (1, .int .i64 a1), (2, .int .i64 a2), (8, .int .i64 0)]) (by kernel_rfl) ?_
      refine WP.seq ?_
      refine WP.seqP [0, 1, 2, 8, 9] (L' := [(0, .slice Al0 l0.length cl0), (1, .int .i64 a1), (2, .int .i64 a2), (8, .int .i64 0), (9, .int .i64 0)]) (by kernel_rfl) ?_
      rw [Option.bind_eq_some_iff] at h
      obtain ⟨os6, h, hk7⟩ := h
      refine WP.cutQ (fun L' G' Γ' => ∃ s6 : Int, s6 = os6 ∧ L' = [(8, .int .i64 s6)] ∧ G = G' ∧ Γ = Γ') ?_ ?_
      · clear hk7
        refine WP.block ?_
        refine WP.pick [0, 1, 2, 8, 9] ?_
        refine WP.loopF (fun k10 L' G' Γ' => ∃ (y8 : Int), ∃ (y9 : Int), grapevineref4_Get_l0 l0 a1 a2 k10 y8 y9 = some os6 ∧ L' = [(0, .slice Al0 l0.length cl0), (1, .int .i64 a1), (2, .int .i64 a2), (8, .int .i64 y8), (9, .int .i64 y9)] ∧ G = G' ∧ Γ = Γ') ?_ k ⟨0, 0, h, rfl, rfl, rfl⟩
        clear h
        rintro k11 _ _ _ ⟨y8, y9, h, rfl, rfl, rfl⟩
        cases k11 with
        | zero => exact absurd h (by simp [grapevineref4_Get_l0])
        | succ k11 =>
          simp only [grapevineref4_Get_l0] at h
          refine WP.seq ?_
          refine WP.seqP [0, 1, 2, 8, 9, 28] (L' := [(0, .slice Al0 l0.length cl0), (1, .int .i64 a1), (2, .int .i64 a2), (8, .int .i64 y8), (9, .int .i64 y9), (28, .bool (decide (y9 < a2)))]) (by kernel_rfl) ?_
          refine WP.cond (b := decide (y9 < a2)) (by kernel_rfl) (fun hc => ?_) (fun hc => ?_)
          · replace hc := of_decide_eq_true hc
            rw [if_pos hc] at h
            have hc12 := hc
            clear hc
            refine WP.skip ?_
            refine QP.next ?_
            refine WP.pick [0, 1, 2, 8, 9] ?_
            refine WP.seq ?_
            refine WP.block ?_
            refine WP.region ?_
            refine WL.pure 0 6 [0, 1, 2, 8, 9, 32, 33, 36] (L' := [(0, .slice Al0 l0.length cl0), (1, .int .i64 a1), (2, .int .i64 a2), (8, .int .i64 y8), (9, .int .i64 y9), (32, .int .i64 (IntKind.i64.wrap (y8 * 256))), (33, .slice Al0 l0.length cl0), (36, .int .i64 (IntKind.i64.wrap (a1 + y9)))]) (by kernel_rfl) (by decide) ?_
            by_cases hb13 : 0 ≤ (IntKind.i64.wrap (a1 + y9)) ∧ (IntKind.i64.wrap (a1 + y9)) < (l0.length : Int)
            case neg => rw [if_neg hb13] at h; cases h
            rw [if_pos hb13] at h
            refine WL.tell (op := .indexAddr 32 (.tmp 33) (.tmp 36)) (ty := 0) (d := some 37) (g := none) (by kernel_rfl) (by kernel_rfl) (by kernel_rfl) (Tells.indexAddr (A := Al0) (n := l0.length) (c := cl0) (k := .i64) (j := (IntKind.i64.wrap (a1 + y9))) (by kernel_rfl) (by kernel_rfl) (Hl0.isSome hb13.1 hb13.2) hb13.1 hb13.2 sl32) ?_
            refine WL.tellE (op := .load 5 (.tmp 37)) (ty := 5) (d := some 38) (g := none) (by kernel_rfl) (by kernel_rfl) (by kernel_rfl) (Hl0.load (agg := false) hb13.1 hb13.2 0 ag5 (fun _ => rfl) (by kernel_rfl)) ?_
            rintro _ rfl
            refine WL.rest 8 [0, 1, 2, 8, 9] (L' := [(0, .slice Al0 l0.length cl0), (1, .int .i64 a1), (2, .int .i64 a2), (8, .int .i64 (IntKind.i64.wrap ((IntKind.i64.wrap (y8 * 256)) + (IntKind.i64.wrap (l0.getD (IntKind.i64.wrap (a1 + y9)).toNat 0))))), (9, .int .i64 y9)]) (by kernel_rfl) ?_
            refine QP.blockN ?_
            refine QP.next ?_
            refine WP.pick [0, 1, 2, 8, 9] ?_
            refine WP.regionP [0, 1, 2, 8, 9] (L' := [(0, .slice Al0 l0.length cl0), (1, .int .i64 a1), (2, .int .i64 a2), (8, .int .i64 (IntKind.i64.wrap ((IntKind.i64.wrap (y8 * 256)) + (IntKind.i64.wrap (l0.getD (IntKind.i64.wrap (a1 + y9)).toNat 0))))), (9, .int .i64 (IntKind.i64.wrap (y9 + 1)))]) (by kernel_rfl) ?_
            refine QP.pick [0, 1, 2, 8, 9] ?_
            exact QP.meet ⟨k11, Nat.lt_succ_self _, (IntKind.i64.wrap ((IntKind.i64.wrap (y8 * 256)) + (IntKind.i64.wrap (l0.getD (IntKind.i64.wrap (a1 + y9)).toNat 0)))), (IntKind.i64.wrap (y9 + 1)), h, rfl, rfl, rfl⟩
          · replace hc := of_decide_eq_false hc
            rw [if_neg hc] at h
            have hc12 := hc
            clear hc
            refine WP.exit ?_
            refine QP.thenE ?_
            refine QP.thenE ?_
            refine QP.blockE ?_
            refine QP.pick [8] ?_
            exact QP.meet ⟨_, Option.some.inj h, rfl, rfl, rfl⟩
      · rintro _ _ _ ⟨s6, rfl, rfl, rfl, rfl⟩
        clear h
        replace h := hk7
        refine QP.next ?_
        refine WP.pick [8] ?_
        refine WP.seqP [6, 7] (L' := [(6, .int .i64 s6), (7, .bool true)]) (by kernel_rfl) ?_
        refine WP.ret ?_
        obtain rfl := Option.some.inj h
        exact QP.returned [6, 7] [.int .i64 s6, .bool true] _ (by kernel_rfl) (by kernel_rfl) (by kernel_rfl) (fun W hI => ⟨_, _, _, rfl, ⟨rfl, rfl, rfl⟩, hI⟩)

/-! ### grapevine/grapevineref6.Next: function 25 -/
def grapevineref6_Next (k : Nat) (l0 : List Int) (a1 : Int) : Option (Int × (List Int) × Int × Bool) := ((if a1 ≥ 0 then some (decide (a1 ≤ (l0.length : Int))) else some false).bind fun s1 => (if s1 = true then ((grapevineref4_Get k l0 (IntKind.i64.wrap (a1 + 2)) 2).bind fun t5 => ((if (!t5.2) = true then some true else (if 0 ≤ a1 ∧ a1 < (l0.length : Int) then (if ¬ (l0.getD a1.toNat 0) = 71 then some true else (if 0 ≤ (IntKind.i64.wrap (a1 + 1)) ∧ (IntKind.i64.wrap (a1 + 1)) < (l0.length : Int) then (if (l0.getD (IntKind.i64.wrap (a1 + 1)).toNat 0) = 0 then some true else some (decide ((IntKind.i64.wrap (t5.1 + 12)) > (IntKind.i64.wrap ((l0.length : Int) - a1))))) else none)) else none)).bind fun s7 => (if s7 = true then some (0, ([] : List Int), 0, false) else ((some (IntKind.i64.wrap ((IntKind.i64.wrap (a1 + 4)) + t5.1))).bind fun v15 => (if 0 ≤ a1 ∧ a1 ≤ v15 ∧ v15 ≤ (l0.length : Int) then (if 0 ≤ v15 ∧ v15 ≤ (IntKind.i64.wrap (v15 + 8)) ∧ (IntKind.i64.wrap (v15 + 8)) ≤ (l0.length : Int) then ((grapevineref6_seal k ((l0.take v15.toNat).drop a1.toNat)).bind fun t21 => (if (!((strOfNums t21).toList == (strOfNums ((l0.take (IntKind.i64.wrap (v15 + 8)).toNat).drop v15.toNat)).toList)) = true then some (0, ([] : List Int), 0, false) else (if 0 ≤ (IntKind.i64.wrap (a1 + 1)) ∧ (IntKind.i64.wrap (a1 + 1)) < (l0.length : Int) then (if 0 ≤ (IntKind.i64.wrap (a1 + 4)) ∧ (IntKind.i64.wrap (a1 + 4)) ≤ v15 ∧ v15 ≤ (l0.length : Int) then (if ([] : List Int).length + ((l0.take v15.toNat).drop (IntKind.i64.wrap (a1 + 4)).toNat).length ≤ 1073741824 then some (IntKind.i64.wrap (l0.getD (IntKind.i64.wrap (a1 + 1)).toNat 0), (([] : List Int) ++ ((l0.take v15.toNat).drop (IntKind.i64.wrap (a1 + 4)).toNat)), IntKind.i64.wrap (v15 + 8), true) else none) else none) else none))) else none) else none))))) else some (0, ([] : List Int), 0, false)))
set_option maxHeartbeats 4000000 in
theorem grapevineref6_Next_calls {B : World} {G : GMap} {Γ : List Chunk} {W : World} (k : Nat) (l0 : List Int) (a1 : Int) (Al0 : Option Addr) (cl0 : Nat) (Hl0 : Rd (kInt .u8) G Al0 cl0 l0) (r : Int × (List Int) × Int × Bool) (h : grapevineref6_Next k l0 a1 = some r) (hI : Inv B G (Γ) W) :
    Calls Try.prog 25 [.slice Al0 l0.length cl0, .int .i64 a1].toArray W (Ret B (fun v G' Γ' => ∃ (AR1 : Option Addr), ∃ (cR1 : Nat), ∃ (CR1 : Chunk), v = .tuple #[.int .i64 r.1, .slice AR1 r.2.1.length cR1, .int .i64 r.2.2.1, .bool r.2.2.2] ∧ Ow (kInt .u8) G' AR1 cR1 r.2.1 CR1 ∧ G = G' ∧ CR1 :: Γ = Γ')) := by
  refine calls_WP (Γ := Γ) (G := G) (B := B) Try.func25 rfl (by kernel_rfl) ?_ hI
  clear hI
  unfold grapevineref6_Next at h
  refine WP.seqP [0, 1] (L' := [(0, .slice Al0 l0.length cl0), (1, .int .i64 a1)]) (by kernel_rfl) ?_
  refine WP.seqP [0, 1, 8, 9] (L' := [(0, .slice Al0 l0.length cl0), (1, .int .i64 a1), (8, .int .i64 0), (9, .bool false)]) (by kernel_rfl) ?_
  refine WP.seq ?_
  rw [Option.bind_eq_some_iff] at h
  obtain ⟨os1, h, hk2⟩ := h
  refine WP.cut (fun L' G' Γ' => ∃ s1 : Bool, s1 = os1 ∧ L' = [(0, .slice Al0 l0.length cl0), (1, .int .i64 a1), (8, .int .i64 0), (9, .bool false), (18, .bool s1)] ∧ G = G' ∧ Γ = Γ') ?_ ?_
  · clear hk2
    refine WP.region ?_
    refine WL.pure 0 3 [0, 1, 8, 9, 13] (L' := [(0, .slice Al0 l0.length cl0), (1, .int .i64 a1), (8, .int .i64 0), (9, .bool false), (13, .bool (decide (a1 ≥ 0)))]) (by kernel_rfl) (by decide) ?_
    refine WL.split 13 (b := decide (a1 ≥ 0)) (by kernel_rfl) (fun hc => ?_) (fun hc => ?_)
    · replace hc := of_decide_eq_true hc
      rw [if_pos hc] at h
      have hc3 := hc
      clear hc
      refine WL.rest 3 [0, 1, 8, 9, 18] (L' := [(0, .slice Al0 l0.length cl0), (1, .int .i64 a1), (8, .int .i64 0), (9, .bool false), (18, .bool (decide (a1 ≤ (l0.length : Int))))]) (by kernel_rfl) ?_
      refine QP.pick [0, 1, 8, 9, 18] ?_
      exact QP.meet ⟨_, Option.some.inj h, rfl, rfl, rfl⟩
    · replace hc := of_decide_eq_false hc
      rw [if_neg hc] at h
      have hc3 := hc
      clear hc
      refine WL.rest 3 [0, 1, 8, 9, 18] (L' := [(0, .slice Al0 l0.length cl0), (1, .int .i64 a1), (8, .int .i64 0), (9, .bool false), (18, .bool false)]) (by kernel_rfl) ?_
      refine QP.pick [0, 1, 8, 9, 18] ?_
      exact QP.meet ⟨_, Option.some.inj h, rfl, rfl, rfl⟩
  · rintro _ _ _ ⟨s1, rfl, rfl, rfl, rfl⟩
    clear h
    replace h := hk2
    refine WP.cond (b := s1) (by kernel_rfl) (fun hc => ?_) (fun hc => ?_)
    · replace hc := hc
      rw [if_pos hc] at h
      have hc4 := hc
      clear hc
      refine WP.region ?_
      refine WL.pure 0 3 [0, 1, 8, 9, 20, 22] (L' := [(0, .slice Al0 l0.length cl0), (1, .int .i64 a1), (8, .int .i64 0), (9, .bool false), (20, .slice Al0 l0.length cl0), (22, .int .i64 (IntKind.i64.wrap (a1 + 2)))]) (by kernel_rfl) (by decide) ?_
      rw [Option.bind_eq_some_iff] at h
      obtain ⟨t5, ht6, h⟩ := h
      refine WL.op (op := .call { callee := (.value (.func 36)), args := #[(.tmp 20), (.tmp 22), (.const (.int .i64 2))], argTypes := #[32, 3, 3] }) (ty := 58) (d := some 23) (g := none) (by kernel_rfl) (by kernel_rfl) (by kernel_rfl) (Does.call (f := 36) (args := [.slice Al0 l0.length cl0, .int .i64 (IntKind.i64.wrap (a1 + 2)), .int .i64 2]) (by kernel_rfl) (fun W hI => (grapevineref4_Get_calls k l0 (IntKind.i64.wrap (a1 + 2)) 2 Al0 cl0 Hl0 t5 ht6 hI))) ?_
      rintro _ _ _ ⟨rfl, rfl, rfl⟩
      refine WL.rest 4 [0, 1, 8, 9] (L' := [(0, .slice Al0 l0.length cl0), (1, .int .i64 a1), (8, .int .i64 t5.1), (9, .bool t5.2)]) (by kernel_rfl) ?_
      refine QP.next ?_
      refine WP.pick [0, 1, 8, 9] ?_
      refine WP.seq ?_
      rw [Option.bind_eq_some_iff] at h
      obtain ⟨os7, h, hk8⟩ := h
      refine WP.cut (fun L' G' Γ' => ∃ s7 : Bool, s7 = os7 ∧ L' = [(0, .slice Al0 l0.length cl0), (1, .int .i64 a1), (8, .int .i64 t5.1), (51, .bool s7)] ∧ G = G' ∧ Γ = Γ') ?_ ?_
      · clear hk8
        refine WP.region ?_
        refine WL.pure 0 3 [0, 1, 8, 28] (L' := [(0, .slice Al0 l0.length cl0), (1, .int .i64 a1), (8, .int .i64 t5.1), (28, .bool (!t5.2))]) (by kernel_rfl) (by decide) ?_
        refine WL.split 28 (b := (!t5.2)) (by kernel_rfl) (fun hc => ?_) (fun hc => ?_)
        · replace hc := hc
          rw [if_pos hc] at h
          have hc9 := hc
          clear hc
          refine WL.rest 3 [0, 1, 8, 51] (L' := [(0, .slice Al0 l0.length cl0), (1, .int .i64 a1), (8, .int .i64 t5.1), (51, .bool true)]) (by kernel_rfl) ?_
          refine QP.pick [0, 1, 8, 51] ?_
          exact QP.meet ⟨_, Option.some.inj h, rfl, rfl, rfl⟩
        · replace hc := (Bool.eq_false_iff.1 hc)
          rw [if_neg hc] at h
          have hc9 := hc
          clear hc
          refine WL.pure 3 5 [0, 1, 8, 28, 29, 30] (L' := [(0, .slice Al0 l0.length cl0), (1, .int .i64 a1), (8, .int .i64 t5.1), (28, .bool false), (29, .slice Al0 l0.length cl0), (30, .int .i64 a1)]) (by kernel_rfl) (by decide) ?_
          by_cases hb10 : 0 ≤ a1 ∧ a1 < (l0.length : Int)
          case neg => rw [if_neg hb10] at h; cases h
          rw [if_pos hb10] at h
          refine WL.tell (op := .indexAddr 32 (.tmp 29) (.tmp 30)) (ty := 0) (d := some 31) (g := some (2, false)) (by kernel_rfl) (by kernel_rfl) (by kernel_rfl) (Tells.indexAddr (A := Al0) (n := l0.length) (c := cl0) (k := .i64) (j := a1) (by kernel_rfl) (by kernel_rfl) (Hl0.isSome hb10.1 hb10.2) hb10.1 hb10.2 sl32) ?_
          refine WL.tellE (op := .load 5 (.tmp 31)) (ty := 5) (d := some 32) (g := some (2, false)) (by kernel_rfl) (by kernel_rfl) (by kernel_rfl) (Hl0.load (agg := false) hb10.1 hb10.2 0 ag5 (fun _ => rfl) (by kernel_rfl)) ?_
          rintro _ rfl
          refine WL.pure 7 10 [0, 1, 8, 35] (L' := [(0, .slice Al0 l0.length cl0), (1, .int .i64 a1), (8, .int .i64 t5.1), (35, .bool ((l0.getD a1.toNat 0) != 71))]) (by kernel_rfl) (by decide) ?_
          refine WL.split 35 (b := ((l0.getD a1.toNat 0) != 71)) (by kernel_rfl) (fun hc => ?_) (fun hc => ?_)
          · replace hc := (bne_iff_ne.1 hc)
            rw [if_pos hc] at h
            have hc11 := hc
            clear hc
            refine WL.rest 10 [0, 1, 8, 51] (L' := [(0, .slice Al0 l0.length cl0), (1, .int .i64 a1), (8, .int .i64 t5.1), (51, .bool true)]) (by kernel_rfl) ?_
            refine QP.pick [0, 1, 8, 51] ?_
            exact QP.meet ⟨_, Option.some.inj h, rfl, rfl, rfl⟩
          · replace hc := (not_not_intro (bne_eq_false_iff_eq.1 hc))
            rw [if_neg hc] at h
            have hc11 := hc
            clear hc
            refine WL.pure 10 13 [0, 1, 8, 35, 36, 38] (L' := [(0, .slice Al0 l0.length cl0), (1, .int .i64 a1), (8, .int .i64 t5.1), (35, .bool false), (36, .slice Al0 l0.length cl0), (38, .int .i64 (IntKind.i64.wrap (a1 + 1)))]) (by kernel_rfl) (by decide) ?_
            by_cases hb12 : 0 ≤ (IntKind.i64.wrap (a1 + 1)) ∧ (IntKind.i64.wrap (a1 + 1)) < (l0.length : Int)
            case neg => rw [if_neg hb12] at h; cases h
            rw [if_pos hb12] at h
            refine WL.tell (op := .indexAddr 32 (.tmp 36) (.tmp 38)) (ty := 0) (d := some 39) (g := some (9, false)) (by kernel_rfl) (by kernel_rfl) (by kernel_rfl) (Tells.indexAddr (A := Al0) (n := l0.length) (c := cl0) (k := .i64) (j := (IntKind.i64.wrap (a1 + 1))) (by kernel_rfl) (by kernel_rfl) (Hl0.isSome hb12.1 hb12.2) hb12.1 hb12.2 sl32) ?_
            refine WL.tellE (op := .load 5 (.tmp 39)) (ty := 5) (d := some 40) (g := some (9, false)) (by kernel_rfl) (by kernel_rfl) (by kernel_rfl) (Hl0.load (agg := false) hb12.1 hb12.2 0 ag5 (fun _ => rfl) (by kernel_rfl)) ?_
            rintro _ rfl
            refine WL.pure 15 18 [0, 1, 8, 43] (L' := [(0, .slice Al0 l0.length cl0), (1, .int .i64 a1), (8, .int .i64 t5.1), (43, .bool ((l0.getD (IntKind.i64.wrap (a1 + 1)).toNat 0) == 0))]) (by kernel_rfl) (by decide) ?_
            refine WL.split 43 (b := ((l0.getD (IntKind.i64.wrap (a1 + 1)).toNat 0) == 0)) (by kernel_rfl) (fun hc => ?_) (fun hc => ?_)
            · replace hc := eq_of_beq hc
              rw [if_pos hc] at h
              have hc13 := hc
              clear hc
              refine WL.rest 18 [0, 1, 8, 51] (L' := [(0, .slice Al0 l0.length cl0), (1, .int .i64 a1), (8, .int .i64 t5.1), (51, .bool true)]) (by kernel_rfl) ?_
              refine QP.pick [0, 1, 8, 51] ?_
              exact QP.meet ⟨_, Option.some.inj h, rfl, rfl, rfl⟩
            · replace hc := ne_of_beq_false hc
              rw [if_neg hc] at h
              have hc13 := hc
              clear hc
              refine WL.rest 18 [0, 1, 8, 51] (L' := [(0, .slice Al0 l0.length cl0), (1, .int .i64 a1), (8, .int .i64 t5.1), (51, .bool (decide ((IntKind.i64.wrap (t5.1 + 12)) > (IntKind.i64.wrap ((l0.length : Int) - a1)))))]) (by kernel_rfl) ?_
              refine QP.pick [0, 1, 8, 51] ?_
              exact QP.meet ⟨_, Option.some.inj h, rfl, rfl, rfl⟩
      · rintro _ _ _ ⟨s7, rfl, rfl, rfl, rfl⟩
        clear h
        replace h := hk8
        refine WP.cond (b := s7) (by kernel_rfl) (fun hc => ?_) (fun hc => ?_)
        · replace hc := hc
          rw [if_pos hc] at h
          have hc14 := hc
          clear hc
          refine WP.seqP [4, 5, 6, 7] (L' := [(4, .int .i64 0), (5, .slice none 0 0), (6, .int .i64 0), (7, .bool false)]) (by kernel_rfl) ?_
          refine WP.ret ?_
          refine QP.thenR ?_
          obtain rfl := Option.some.inj h
          refine QP.addNil ?_
          exact QP.returned [4, 5, 6, 7] [.int .i64 0, .slice none 0 0, .int .i64 0, .bool false] _ (by kernel_rfl) (by kernel_rfl) (by kernel_rfl) (fun W hI => ⟨_, _, _, rfl, ⟨none, 0, [], rfl, Ow.nil _ _, rfl, rfl⟩, hI⟩)
        · replace hc := (Bool.eq_false_iff.1 hc)
          rw [if_neg hc] at h
          have hc14 := hc
          clear hc
          refine WP.skip ?_
          refine QP.next ?_
          refine WP.pick [0, 1, 8] ?_
          refine WP.seqP [0, 1, 10] (L' := [(0, .slice Al0 l0.length cl0), (1, .int .i64 a1), (10, .int .i64 (IntKind.i64.wrap ((IntKind.i64.wrap (a1 + 4)) + t5.1)))]) (by kernel_rfl) ?_
          obtain ⟨v15, hv16, h⟩ := Option.bind_eq_some_iff.1 h
          replace hv16 := Option.some.inj hv16
          refine WP.reput 10 (v := .int .i64 (IntKind.i64.wrap ((IntKind.i64.wrap (a1 + 4)) + t5.1))) (v' := .int .i64 v15) (by kernel_rfl) (by subst hv16; rfl) ?_
          refine WP.pick [0, 1, 10] ?_
          refine WP.seq ?_
          refine WP.seq ?_
          refine WP.any (G0 := G) (Γ0 := Γ) mo ?_
          refine WA.pure [0, 1, 2, 6, 7, 8, 9] [0, 1, 10, 56, 57, 58, 62, 63, 65] (m := 6) (done' := #[true, true, true, false, false, false, true, true, true, true, false, false, false]) (L' := [(0, .slice Al0 l0.length cl0), (1, .int .i64 a1), (10, .int .i64 v15), (56, .slice Al0 l0.length cl0), (57, .int .i64 a1), (58, .int .i64 v15), (62, .slice Al0 l0.length cl0), (63, .int .i64 v15), (65, .int .i64 (IntKind.i64.wrap (v15 + 8)))]) (by kernel_rfl) (by repeat (first | exact NoPanic.body | refine NoPanic.then ?_ | refine NoPanic.block ?_)) Under.refl (by kernel_rfl) ?_
          by_cases hb17 : 0 ≤ a1 ∧ a1 ≤ v15 ∧ v15 ≤ (l0.length : Int)
          case neg => rw [if_neg hb17] at h; cases h
          rw [if_pos hb17] at h
          refine WA.tellS (i := 3) (m := 5) (by kernel_rfl) (by repeat (first | exact NoPanic.body | refine NoPanic.then ?_ | refine NoPanic.block ?_)) Under.refl (by kernel_rfl) (op := .slice 32 (.tmp 56) (some (.tmp 57)) (some (.tmp 58)) none) (ty := 32) (d := some 59) (g := none) (by kernel_rfl) (by kernel_rfl) (by kernel_rfl) (Hl0.slice (l := a1) (h := v15) (by kernel_rfl) ⟨.i64, by kernel_rfl⟩ ⟨.i64, by kernel_rfl⟩ hb17.1 hb17.2.1 hb17.2.2 sl32) ?_
          rintro AP18 cP18 HP18
          by_cases hb19 : 0 ≤ v15 ∧ v15 ≤ (IntKind.i64.wrap (v15 + 8)) ∧ (IntKind.i64.wrap (v15 + 8)) ≤ (l0.length : Int)
          case neg => rw [if_neg hb19] at h; cases h
          rw [if_pos hb19] at h
          refine WA.tellS (i := 10) (m := 4) (by kernel_rfl) (by repeat (first | exact NoPanic.body | refine NoPanic.then ?_ | refine NoPanic.block ?_)) Under.refl (by kernel_rfl) (op := .slice 32 (.tmp 62) (some (.tmp 63)) (some (.tmp 65)) none) (ty := 32) (d := some 66) (g := none) (by kernel_rfl) (by kernel_rfl) (by kernel_rfl) (Hl0.slice (l := v15) (h := (IntKind.i64.wrap (v15 + 8))) (by kernel_rfl) ⟨.i64, by kernel_rfl⟩ ⟨.i64, by kernel_rfl⟩ hb19.1 hb19.2.1 hb19.2.2 sl32) ?_
          rintro AP20 cP20 HP20
          refine WA.tell (i := 11) (m := 3) (by kernel_rfl) (by repeat (first | exact NoPanic.body | refine NoPanic.then ?_ | refine NoPanic.block ?_)) Under.refl (by kernel_rfl) (op := .convert 32 9 (.tmp 66)) (ty := 9) (d := some 67) (g := none) (by kernel_rfl) (by kernel_rfl) (by kernel_rfl) (HP20.str (by kernel_rfl) by32 st9) ?_
          rw [Option.bind_eq_some_iff] at h
          obtain ⟨t21, ht22, h⟩ := h
          refine WA.op (i := 4) (m := 2) (by kernel_rfl) (by kernel_rfl) (op := .call { callee := (.value (.func 34)), args := #[(.tmp 59)], argTypes := #[32] }) (ty := 32) (d := some 60) (g := none) (by kernel_rfl) (by kernel_rfl) (by kernel_rfl) (Does.call (f := 34) (args := [.slice AP18 ((l0.take v15.toNat).drop a1.toNat).length cP18]) (by kernel_rfl) (fun W hI => (grapevineref6_seal_calls k ((l0.take v15.toNat).drop a1.toNat) AP18 cP18 HP18 t21 ht22 hI))) ?_
          rintro _ _ _ ⟨AR23, cR23, CR23, rfl, HR23, rfl, rfl⟩
          refine ⟨_, _, Under.cons (Under.refl), Under.refl, ?_⟩
          refine WA.tell (i := 5) (m := 1) (by kernel_rfl) (by repeat (first | exact NoPanic.body | refine NoPanic.then ?_ | refine NoPanic.block ?_)) Under.refl (by kernel_rfl) (op := .convert 32 9 (.tmp 60)) (ty := 9) (d := some 61) (g := none) (by kernel_rfl) (by kernel_rfl) (by kernel_rfl) (HR23.str (i := 0) rfl (by kernel_rfl) by32 st9) ?_
          refine WA.pure [12] [0, 1, 10, 68] (m := 0) (done' := #[true, true, true, true, true, true, true, true, true, true, true, true, true]) (L' := [(0, .slice Al0 l0.length cl0), (1, .int .i64 a1), (10, .int .i64 v15), (68, .bool (!((strOfNums t21).toList == (strOfNums ((l0.take (IntKind.i64.wrap (v15 + 8)).toNat).drop v15.toNat)).toList)))]) (by kernel_rfl) (by repeat (first | exact NoPanic.body | refine NoPanic.then ?_ | refine NoPanic.block ?_)) Under.refl (by kernel_rfl) ?_
          refine WA.done (by kernel_rfl) ?_
          refine QP.pick [0, 1, 10, 68] ?_
          refine QP.next ?_
          refine WP.cond (b := (!((strOfNums t21).toList == (strOfNums ((l0.take (IntKind.i64.wrap (v15 + 8)).toNat).drop v15.toNat)).toList))) (by kernel_rfl) (fun hc => ?_) (fun hc => ?_)
          · replace hc := hc
            rw [if_pos hc] at h
            have hc24 := hc
            clear hc
            refine WP.seqP [4, 5, 6, 7] (L' := [(4, .int .i64 0), (5, .slice none 0 0), (6, .int .i64 0), (7, .bool false)]) (by kernel_rfl) ?_
            refine WP.ret ?_
            refine QP.thenR ?_
            obtain rfl := Option.some.inj h
            refine QP.addNil ?_
            refine QP.dropAt 1 ?_
            exact QP.returned [4, 5, 6, 7] [.int .i64 0, .slice none 0 0, .int .i64 0, .bool false] _ (by kernel_rfl) (by kernel_rfl) (by kernel_rfl) (fun W hI => ⟨_, _, _, rfl, ⟨none, 0, [], rfl, Ow.nil _ _, rfl, rfl⟩, hI⟩)
          · replace hc := (Bool.eq_false_iff.1 hc)
            rw [if_neg hc] at h
            have hc24 := hc
            clear hc
            refine WP.skip ?_
            refine QP.next ?_
            refine WP.pick [0, 1, 10] ?_
            refine WP.seq ?_
            refine WP.any (G0 := G) (Γ0 := []) mo ?_
            refine WA.pure [0, 1, 2, 6, 7, 8, 9, 12, 13] [69, 71, 75, 77, 78, 82] (m := 9) (done' := #[true, true, true, false, false, false, true, true, true, true, false, false, true, true, false, false, false, false]) (L' := [(69, .slice Al0 l0.length cl0), (71, .int .i64 (IntKind.i64.wrap (a1 + 1))), (75, .slice Al0 l0.length cl0), (77, .int .i64 (IntKind.i64.wrap (a1 + 4))), (78, .int .i64 v15), (82, .int .i64 (IntKind.i64.wrap (v15 + 8)))]) (by kernel_rfl) (by repeat (first | exact NoPanic.body | refine NoPanic.then ?_ | refine NoPanic.block ?_)) Under.empty (by kernel_rfl) ?_
            by_cases hb25 : 0 ≤ (IntKind.i64.wrap (a1 + 1)) ∧ (IntKind.i64.wrap (a1 + 1)) < (l0.length : Int)
            case neg => rw [if_neg hb25] at h; cases h
            rw [if_pos hb25] at h
            refine WA.tell (i := 3) (m := 8) (by kernel_rfl) (by repeat (first | exact NoPanic.body | refine NoPanic.then ?_ | refine NoPanic.block ?_)) Under.empty (by kernel_rfl) (op := .indexAddr 32 (.tmp 69) (.tmp 71)) (ty := 0) (d := some 72) (g := none) (by kernel_rfl) (by kernel_rfl) (by kernel_rfl) (Tells.indexAddr (A := Al0) (n := l0.length) (c := cl0) (k := .i64) (j := (IntKind.i64.wrap (a1 + 1))) (by kernel_rfl) (by kernel_rfl) (Hl0.isSome hb25.1 hb25.2) hb25.1 hb25.2 sl32) ?_
            refine WA.tellE (i := 4) (m := 7) (by kernel_rfl) (by repeat (first | exact NoPanic.body | refine NoPanic.then ?_ | refine NoPanic.block ?_)) Under.empty (by kernel_rfl) (op := .load 5 (.tmp 72)) (ty := 5) (d := some 73) (g := none) (by kernel_rfl) (by kernel_rfl) (by kernel_rfl) (Hl0.load (agg := false) hb25.1 hb25.2 0 ag5 (fun _ => rfl) (by kernel_rfl)) ?_
            rintro _ rfl
            refine WA.pure [5] [74, 75, 77, 78, 82] (m := 6) (done' := #[true, true, true, true, true, true, true, true, true, true, false, false, true, true, false, false, false, false]) (L' := [(74, .int .i64 (IntKind.i64.wrap (l0.getD (IntKind.i64.wrap (a1 + 1)).toNat 0))), (75, .slice Al0 l0.length cl0), (77, .int .i64 (IntKind.i64.wrap (a1 + 4))), (78, .int .i64 v15), (82, .int .i64 (IntKind.i64.wrap (v15 + 8)))]) (by kernel_rfl) (by repeat (first | exact NoPanic.body | refine NoPanic.then ?_ | refine NoPanic.block ?_)) Under.empty (by kernel_rfl) ?_
            by_cases hb26 : 0 ≤ (IntKind.i64.wrap (a1 + 4)) ∧ (IntKind.i64.wrap (a1 + 4)) ≤ v15 ∧ v15 ≤ (l0.length : Int)
            case neg => rw [if_neg hb26] at h; cases h
            rw [if_pos hb26] at h
            refine WA.tellS (i := 10) (m := 5) (by kernel_rfl) (by repeat (first | exact NoPanic.body | refine NoPanic.then ?_ | refine NoPanic.block ?_)) Under.empty (by kernel_rfl) (op := .slice 32 (.tmp 75) (some (.tmp 77)) (some (.tmp 78)) none) (ty := 32) (d := some 79) (g := none) (by kernel_rfl) (by kernel_rfl) (by kernel_rfl) (Hl0.slice (l := (IntKind.i64.wrap (a1 + 4))) (h := v15) (by kernel_rfl) ⟨.i64, by kernel_rfl⟩ ⟨.i64, by kernel_rfl⟩ hb26.1 hb26.2.1 hb26.2.2 sl32) ?_
            rintro AP27 cP27 HP27
            refine WA.addNil ?_
            by_cases hb28 : ([] : List Int).length + ((l0.take v15.toNat).drop (IntKind.i64.wrap (a1 + 4)).toNat).length ≤ 1073741824
            case neg => rw [if_neg hb28] at h; cases h
            rw [if_pos hb28] at h
            refine WA.op (i := 11) (m := 4) (by kernel_rfl) (by kernel_rfl) (op := .call { callee := (.builtin .append), args := #[(.const (.slice none 0 0)), (.tmp 79)], argTypes := #[32, 32] }) (ty := 32) (d := some 80) (g := none) (by kernel_rfl) (by kernel_rfl) (by kernel_rfl) (Ow.append (ys := ((l0.take v15.toNat).drop (IntKind.i64.wrap (a1 + 4)).toNat)) (v := .slice AP27 ((l0.take v15.toNat).drop (IntKind.i64.wrap (a1 + 4)).toNat).length cP27) (Ow.nil (kInt .u8) G) (i := 0) rfl (by kernel_rfl) (by kernel_rfl) HP27.src sl32 ze5 nt32 (by decide) hb28) ?_
            rintro _ _ _ ⟨rfl, AN29, cN29, CN29, rfl, HN29, rfl⟩
            refine ⟨_, _, Under.empty, Under.refl, ?_⟩
            refine WA.pure [14, 15, 16, 17] [4, 5, 6, 7] (m := 0) (done' := #[true, true, true, true, true, true, true, true, true, true, true, true, true, true, true, true, true, true]) (L' := [(4, .int .i64 (IntKind.i64.wrap (l0.getD (IntKind.i64.wrap (a1 + 1)).toNat 0))), (5, .slice AN29 (([] : List Int) ++ ((l0.take v15.toNat).drop (IntKind.i64.wrap (a1 + 4)).toNat)).length cN29), (6, .int .i64 (IntKind.i64.wrap (v15 + 8))), (7, .bool true)]) (by kernel_rfl) (by repeat (first | exact NoPanic.body | refine NoPanic.then ?_ | refine NoPanic.block ?_)) Under.refl (by kernel_rfl) ?_
            refine WA.done (by kernel_rfl) ?_
            refine QP.pick [4, 5, 6, 7] ?_
            refine QP.next ?_
            refine WP.ret ?_
            obtain rfl := Option.some.inj h
            refine QP.dropAt 1 ?_
            exact QP.returned [4, 5, 6, 7] [.int .i64 (IntKind.i64.wrap (l0.getD (IntKind.i64.wrap (a1 + 1)).toNat 0)), .slice AN29 (([] : List Int) ++ ((l0.take v15.toNat).drop (IntKind.i64.wrap (a1 + 4)).toNat)).length cN29, .int .i64 (IntKind.i64.wrap (v15 + 8)), .bool true] _ (by kernel_rfl) (by kernel_rfl) (by kernel_rfl) (fun W hI => ⟨_, _, _, rfl, ⟨AN29, cN29, CN29, rfl, HN29, rfl, rfl⟩, hI⟩)
    · replace hc := (Bool.eq_false_iff.1 hc)
      rw [if_neg hc] at h
      have hc4 := hc
      clear hc
      refine WP.skip ?_
      refine QP.next ?_
      refine WP.pick [0, 1, 8, 9] ?_
      refine WP.seq ?_
      refine WP.seqP [0, 1, 8, 51] (L' := [(0, .slice Al0 l0.length cl0), (1, .int .i64 a1), (8, .int .i64 0), (51, .bool true)]) (by kernel_rfl) ?_
      refine WP.yes (by kernel_rfl) ?_
      refine WP.seqP [4, 5, 6, 7] (L' := [(4, .int .i64 0), (5, .slice none 0 0), (6, .int .i64 0), (7, .bool false)]) (by kernel_rfl) ?_
      refine WP.ret ?_
      refine QP.thenR ?_
      obtain rfl := Option.some.inj h
      refine QP.addNil ?_
      exact QP.returned [4, 5, 6, 7] [.int .i64 0, .slice none 0 0, .int .i64 0, .bool false] _ (by kernel_rfl) (by kernel_rfl) (by kernel_rfl) (fun W hI => ⟨_, _, _, rfl, ⟨none, 0, [], rfl, Ow.nil _ _, rfl, rfl⟩, hI⟩)

/-! ### grapevine/grapevineref6.Count: function 27 -/
def grapevineref6_Count_l0 (l0 : List Int) : Nat → Int → Int → Option (Int × Int)
  | 0, _, _ => none
  | k + 1, y3, y4 => (if y4 < (l0.length : Int) then ((grapevineref6_Next k l0 y4).bind fun t8 => (if (!t8.2.2.2) = true then some (y3, y4) else grapevineref6_Count_l0 l0 k (IntKind.i64.wrap (y3 + 1)) t8.2.2.1)) else some (y3, y4))
def grapevineref6_Count (k : Nat) (l0 : List Int) : Option (Int × Int) := ((grapevineref6_Count_l0 l0 k 0 0).bind fun s1 => some (s1.1, s1.2))
set_option maxHeartbeats 4000000 in
theorem grapevineref6_Count_calls {B : World} {G : GMap} {Γ : List Chunk} {W : World} (k : Nat) (l0 : List Int) (Al0 : Option Addr) (cl0 : Nat) (Hl0 : Rd (kInt .u8) G Al0 cl0 l0) (r : Int × Int) (h : grapevineref6_Count k l0 = some r) (hI : Inv B G (Γ) W) :
    Calls Try.prog 27 [.slice Al0 l0.length cl0].toArray W (Ret B (fun v G' Γ' => v = .tuple #[.int .i64 r.1, .int .i64 r.2] ∧ G = G' ∧ Γ = Γ')) := by
  refine calls_WP (Γ := Γ) (G := G) (B := B) Try.func27 rfl (by kernel_rfl) ?_ hI
  clear hI
  unfold grapevineref6_Count at h
  refine WP.seqP [0] (L' := [(0, .slice Al0 l0.length cl0)]) (by kernel_rfl) ?_
  refine WP.seqP [0, 4, 5] (L' := [(0, .slice Al0 l0.length cl0), (4, .int .i64 0), (5, .int .i64 0)]) (by kernel_rfl) ?_
  rw [Option.bind_eq_some_iff] at h
  obtain ⟨os1, h, hk2⟩ := h
  refine WP.cut (fun L' G' Γ' => ∃ s1 : Int × Int, s1 = os1 ∧ L' = [(4, .int .i64 s1.1), (5, .int .i64 s1.2)] ∧ G = G' ∧ Γ = Γ') ?_ ?_
  · clear hk2
    refine WP.block ?_
    refine WP.pick [0, 4, 5] ?_
    refine WP.loopF (fun k5 L' G' Γ' => ∃ (y3 : Int), ∃ (y4 : Int), grapevineref6_Count_l0 l0 k5 y3 y4 = some os1 ∧ L' = [(0, .slice Al0 l0.length cl0), (4, .int .i64 y3), (5, .int .i64 y4)] ∧ G = G' ∧ Γ = Γ') ?_ k ⟨0, 0, h, rfl, rfl, rfl⟩
    clear h
    rintro k6 _ _ _ ⟨y3, y4, h, rfl, rfl, rfl⟩
    cases k6 with
    | zero => exact absurd h (by simp [grapevineref6_Count_l0])
    | succ k6 =>
      simp only [grapevineref6_Count_l0] at h
      refine WP.seq ?_
      refine WP.seqP [0, 4, 5, 13] (L' := [(0, .slice Al0 l0.length cl0), (4, .int .i64 y3), (5, .int .i64 y4), (13, .bool (decide (y4 < (l0.length : Int))))]) (by kernel_rfl) ?_
      refine WP.cond (b := decide (y4 < (l0.length : Int))) (by kernel_rfl) (fun hc => ?_) (fun hc => ?_)
      · replace hc := of_decide_eq_true hc
        rw [if_pos hc] at h
        have hc7 := hc
        clear hc
        refine WP.skip ?_
        refine QP.next ?_
        refine WP.pick [0, 4, 5] ?_
        refine WP.block ?_
        refine WP.seqR ?_
        refine WL.pure 0 2 [0, 4, 5, 15, 16] (L' := [(0, .slice Al0 l0.length cl0), (4, .int .i64 y3), (5, .int .i64 y4), (15, .slice Al0 l0.length cl0), (16, .int .i64 y4)]) (by kernel_rfl) (by decide) ?_
        rw [Option.bind_eq_some_iff] at h
        obtain ⟨t8, ht9, h⟩ := h
        refine WL.op (op := .call { callee := (.value (.func 25)), args := #[(.tmp 15), (.tmp 16)], argTypes := #[32, 3] }) (ty := 45) (d := some 17) (g := none) (by kernel_rfl) (by kernel_rfl) (by kernel_rfl) (Does.call (f := 25) (args := [.slice Al0 l0.length cl0, .int .i64 y4]) (by kernel_rfl) (fun W hI => (grapevineref6_Next_calls k6 l0 y4 Al0 cl0 Hl0 t8 ht9 hI))) ?_
        rintro _ _ _ ⟨AR10, cR10, CR10, rfl, HR10, rfl, rfl⟩
        refine WL.restQ 3 [0, 4, 5, 8, 9] (L' := [(0, .slice Al0 l0.length cl0), (4, .int .i64 y3), (5, .int .i64 y4), (8, .int .i64 t8.2.2.1), (9, .bool t8.2.2.2)]) (by kernel_rfl) ?_
        refine WP.seq ?_
        refine WP.seqP [0, 4, 5, 8, 23] (L' := [(0, .slice Al0 l0.length cl0), (4, .int .i64 y3), (5, .int .i64 y4), (8, .int .i64 t8.2.2.1), (23, .bool (!t8.2.2.2))]) (by kernel_rfl) ?_
        refine WP.cond (b := (!t8.2.2.2)) (by kernel_rfl) (fun hc => ?_) (fun hc => ?_)
        · replace hc := hc
          rw [if_pos hc] at h
          have hc11 := hc
          clear hc
          refine WP.exit ?_
          refine QP.thenE ?_
          refine QP.blockM (by rfl) ?_
          refine QP.thenE ?_
          refine QP.blockE ?_
          refine QP.dropAt 0 ?_
          refine QP.pick [4, 5] ?_
          exact QP.meet ⟨_, Option.some.inj h, rfl, rfl, rfl⟩
        · replace hc := (Bool.eq_false_iff.1 hc)
          rw [if_neg hc] at h
          have hc11 := hc
          clear hc
          refine WP.skip ?_
          refine QP.next ?_
          refine WP.pick [0, 4, 8] ?_
          refine WP.seqP [0, 4, 8] (L' := [(0, .slice Al0 l0.length cl0), (4, .int .i64 (IntKind.i64.wrap (y3 + 1))), (8, .int .i64 t8.2.2.1)]) (by kernel_rfl) ?_
          refine WP.regionP [0, 4, 5] (L' := [(0, .slice Al0 l0.length cl0), (4, .int .i64 (IntKind.i64.wrap (y3 + 1))), (5, .int .i64 t8.2.2.1)]) (by kernel_rfl) ?_
          refine QP.blockN ?_
          refine QP.dropAt 0 ?_
          refine QP.pick [0, 4, 5] ?_
          exact QP.meet ⟨k6, Nat.lt_succ_self _, (IntKind.i64.wrap (y3 + 1)), t8.2.2.1, h, rfl, rfl, rfl⟩
      · replace hc := of_decide_eq_false hc
        rw [if_neg hc] at h
        have hc7 := hc
        clear hc
        refine WP.exit ?_
        refine QP.thenE ?_
        refine QP.thenE ?_
        refine QP.blockE ?_
        refine QP.pick [4, 5] ?_
        exact QP.meet ⟨_, Option.some.inj h, rfl, rfl, rfl⟩
  · rintro _ _ _ ⟨s1, rfl, rfl, rfl, rfl⟩
    clear h
    replace h := hk2
    refine WP.seqP [2, 3] (L' := [(2, .int .i64 s1.1), (3, .int .i64 s1.2)]) (by kernel_rfl) ?_
    refine WP.ret ?_
    obtain rfl := Option.some.inj h
    exact QP.returned [2, 3] [.int .i64 s1.1, .int .i64 s1.2] _ (by kernel_rfl) (by kernel_rfl) (by kernel_rfl) (fun W hI => ⟨_, _, _, rfl, ⟨rfl, rfl, rfl⟩, hI⟩)

/-! ### grapevine/grapevinelaw0.KeptBytes: function 28 -/
def grapevinelaw0_KeptBytes_l0 (v3 : List Int) : Nat → Int → Option (Sum Bool Unit)
  | 0, _ => none
  | k + 1, y8 => (if y8 < 3 then (if 0 ≤ y8 ∧ y8 < (v3.length : Int) then (if ¬ (v3.getD y8.toNat 0) = 119 then some (Sum.inl false) else grapevinelaw0_KeptBytes_l0 v3 k (IntKind.i64.wrap (y8 + 1))) else none) else some (Sum.inr ()))
def grapevinelaw0_KeptBytes (k : Nat) (l0 : List Int) (l1 : List Int) : Option Bool := (if 0 ≤ (l0.length : Int) ∧ (l0.length : Int) ≤ (IntKind.i64.wrap ((l0.length : Int) + 3)) ∧ (IntKind.i64.wrap ((l0.length : Int) + 3)) ≤ ((l0 ++ ([119, 119, 119] : List Int)).length : Int) then ((some (((l0 ++ ([119, 119, 119] : List Int)).take (IntKind.i64.wrap ((l0.length : Int) + 3)).toNat).drop (l0.length : Int).toNat)).bind fun v3 => ((grapevinelaw0_KeptBytes_l0 v3 k 0).bind fun os6 => match os6 with | Sum.inl r => some r | Sum.inr s6 => ((grapevinelaw0_SameBytes k l0 l1).bind fun t14 => some t14))) else none)
set_option maxHeartbeats 4000000 in
theorem grapevinelaw0_KeptBytes_calls {B : World} {G : GMap} {Γ : List Chunk} {W : World} (k : Nat) (l0 : List Int) (l1 : List Int) (Al0 : Option Addr) (cl0 : Nat) (Hl0 : Rd (kInt .u8) G Al0 cl0 l0) (Hr0 : Rd (kInt .u8) G Al0 cl0 (l0 ++ ([119, 119, 119] : List Int))) (Al1 : Option Addr) (cl1 : Nat) (Hl1 : Rd (kInt .u8) G Al1 cl1 l1) (r : Bool) (h : grapevinelaw0_KeptBytes k l0 l1 = some r) (hI : Inv B G (Γ) W) :
    Calls Try.prog 28 [.slice Al0 l0.length cl0, .slice Al1 l1.length cl1].toArray W (Ret B (fun v G' Γ' => v = .bool r ∧ G = G' ∧ Γ = Γ')) := by
  refine calls_WP (Γ := Γ) (G := G) (B := B) Try.func28 rfl (by kernel_rfl) ?_ hI
  clear hI
  unfold grapevinelaw0_KeptBytes at h
  refine WP.seqP [0, 1] (L' := [(0, .slice Al0 l0.length cl0), (1, .slice Al1 l1.length cl1)]) (by kernel_rfl) ?_
  refine WP.seqR ?_
  refine WL.pure 0 6 [0, 1, 7, 9, 12] (L' := [(0, .slice Al0 l0.length cl0), (1, .slice Al1 l1.length cl1), (7, .slice Al0 l0.length cl0), (9, .int .i64 (l0.length : Int)), (12, .int .i64 (IntKind.i64.wrap ((l0.length : Int) + 3)))]) (by kernel_rfl) (by decide) ?_
  by_cases hb1 : 0 ≤ (l0.length : Int) ∧ (l0.length : Int) ≤ (IntKind.i64.wrap ((l0.length : Int) + 3)) ∧ (IntKind.i64.wrap ((l0.length : Int) + 3)) ≤ ((l0 ++ ([119, 119, 119] : List Int)).length : Int)
  case neg => rw [if_neg hb1] at h; cases h
  rw [if_pos hb1] at h
  refine WL.tellS (op := .slice 32 (.tmp 7) (some (.tmp 9)) (some (.tmp 12)) none) (ty := 32) (d := some 13) (g := none) (by kernel_rfl) (by kernel_rfl) (by kernel_rfl) (Hr0.sliceR (m := l0.length) (l := (l0.length : Int)) (h := (IntKind.i64.wrap ((l0.length : Int) + 3))) (by kernel_rfl) ⟨.i64, by kernel_rfl⟩ ⟨.i64, by kernel_rfl⟩ hb1.1 hb1.2.1 hb1.2.2 sl32) ?_
  rintro AP2 cP2 HP2
  refine WL.restQ 7 [0, 1, 5] (L' := [(0, .slice Al0 l0.length cl0), (1, .slice Al1 l1.length cl1), (5, .slice AP2 (((l0 ++ ([119, 119, 119] : List Int)).take (IntKind.i64.wrap ((l0.length : Int) + 3)).toNat).drop (l0.length : Int).toNat).length cP2)]) (by kernel_rfl) ?_
  obtain ⟨v3, hv4, h⟩ := Option.bind_eq_some_iff.1 h
  replace hv4 := Option.some.inj hv4
  have Hn5 := HP2
  rw [hv4] at Hn5
  refine WP.reput 5 (v := .slice AP2 (((l0 ++ ([119, 119, 119] : List Int)).take (IntKind.i64.wrap ((l0.length : Int) + 3)).toNat).drop (l0.length : Int).toNat).length cP2) (v' := .slice AP2 v3.length cP2) (by kernel_rfl) (by subst hv4; rfl) ?_
  refine WP.pick [0, 1, 5] ?_
  refine WP.seq ?_
  refine WP.seqP [0, 1, 5, 6] (L' := [(0, .slice Al0 l0.length cl0), (1, .slice Al1 l1.length cl1), (5, .slice AP2 v3.length cP2), (6, .int .i64 0)]) (by kernel_rfl) ?_
  rw [Option.bind_eq_some_iff] at h
  obtain ⟨os6, h, hk7⟩ := h
  refine WP.cutQ (fun L' G' Γ' => ∃ s6 : Unit, Sum.inr s6 = os6 ∧ L' = [(0, .slice Al0 l0.length cl0), (1, .slice Al1 l1.length cl1)] ∧ G = G' ∧ Γ = Γ') ?_ ?_
  · skip
    refine WP.block ?_
    refine WP.pick [0, 1, 5, 6] ?_
    refine WP.loopF (fun k9 L' G' Γ' => ∃ (y8 : Int), grapevinelaw0_KeptBytes_l0 v3 k9 y8 = some os6 ∧ L' = [(0, .slice Al0 l0.length cl0), (1, .slice Al1 l1.length cl1), (5, .slice AP2 v3.length cP2), (6, .int .i64 y8)] ∧ G = G' ∧ Γ = Γ') ?_ k ⟨0, h, rfl, rfl, rfl⟩
    clear h
    rintro k10 _ _ _ ⟨y8, h, rfl, rfl, rfl⟩
    cases k10 with
    | zero => exact absurd h (by simp [grapevinelaw0_KeptBytes_l0])
    | succ k10 =>
      simp only [grapevinelaw0_KeptBytes_l0] at h
      refine WP.seq ?_
      refine WP.seqP [0, 1, 5, 6, 15] (L' := [(0, .slice Al0 l0.length cl0), (1, .slice Al1 l1.length cl1), (5, .slice AP2 v3.length cP2), (6, .int .i64 y8), (15, .bool (decide (y8 < 3)))]) (by kernel_rfl) ?_
      refine WP.cond (b := decide (y8 < 3)) (by kernel_rfl) (fun hc => ?_) (fun hc => ?_)
      · replace hc := of_decide_eq_true hc
        rw [if_pos hc] at h
        have hc11 := hc
        clear hc
        refine WP.skip ?_
        refine QP.next ?_
        refine WP.pick [0, 1, 5, 6] ?_
        refine WP.seq ?_
        refine WP.block ?_
        refine WP.seqR ?_
        refine WL.pure 0 2 [0, 1, 5, 6, 18, 19] (L' := [(0, .slice Al0 l0.length cl0), (1, .slice Al1 l1.length cl1), (5, .slice AP2 v3.length cP2), (6, .int .i64 y8), (18, .slice AP2 v3.length cP2), (19, .int .i64 y8)]) (by kernel_rfl) (by decide) ?_
        by_cases hb12 : 0 ≤ y8 ∧ y8 < (v3.length : Int)
        case neg => rw [if_neg hb12] at h; cases h
        rw [if_pos hb12] at h
        refine WL.tell (op := .indexAddr 32 (.tmp 18) (.tmp 19)) (ty := 0) (d := some 20) (g := none) (by kernel_rfl) (by kernel_rfl) (by kernel_rfl) (Tells.indexAddr (A := AP2) (n := v3.length) (c := cP2) (k := .i64) (j := y8) (by kernel_rfl) (by kernel_rfl) (Hn5.isSome hb12.1 hb12.2) hb12.1 hb12.2 sl32) ?_
        refine WL.tellE (op := .load 5 (.tmp 20)) (ty := 5) (d := some 21) (g := none) (by kernel_rfl) (by kernel_rfl) (by kernel_rfl) (Hn5.load (agg := false) hb12.1 hb12.2 0 ag5 (fun _ => rfl) (by kernel_rfl)) ?_
        rintro _ rfl
        refine WL.restQ 4 [0, 1, 5, 6, 22] (L' := [(0, .slice Al0 l0.length cl0), (1, .slice Al1 l1.length cl1), (5, .slice AP2 v3.length cP2), (6, .int .i64 y8), (22, .bool ((v3.getD y8.toNat 0) != 119))]) (by kernel_rfl) ?_
        refine WP.cond (b := ((v3.getD y8.toNat 0) != 119)) (by kernel_rfl) (fun hc => ?_) (fun hc => ?_)
        · replace hc := (bne_iff_ne.1 hc)
          rw [if_pos hc] at h
          have hc13 := hc
          clear hc
          refine WP.seqP [4] (L' := [(4, .bool false)]) (by kernel_rfl) ?_
          refine WP.ret ?_
          refine QP.blockR ?_
          refine QP.thenR ?_
          refine QP.thenR ?_
          refine QP.blockR ?_
          refine QP.thenR ?_
          refine QP.thenR ?_
          obtain rfl := Option.some.inj h
          obtain rfl := Option.some.inj (show some _ = some _ from hk7)
          exact QP.returned [4] [.bool false] _ (by kernel_rfl) (by kernel_rfl) (by kernel_rfl) (fun W hI => ⟨_, _, _, rfl, ⟨rfl, rfl, rfl⟩, hI⟩)
        · replace hc := (not_not_intro (bne_eq_false_iff_eq.1 hc))
          rw [if_neg hc] at h
          have hc13 := hc
          clear hc
          refine WP.skip ?_
          refine QP.blockN ?_
          refine QP.next ?_
          refine WP.pick [0, 1, 5, 6] ?_
          refine WP.regionP [0, 1, 5, 6] (L' := [(0, .slice Al0 l0.length cl0), (1, .slice Al1 l1.length cl1), (5, .slice AP2 v3.length cP2), (6, .int .i64 (IntKind.i64.wrap (y8 + 1)))]) (by kernel_rfl) ?_
          refine QP.pick [0, 1, 5, 6] ?_
          exact QP.meet ⟨k10, Nat.lt_succ_self _, (IntKind.i64.wrap (y8 + 1)), h, rfl, rfl, rfl⟩
      · replace hc := of_decide_eq_false hc
        rw [if_neg hc] at h
        have hc11 := hc
        clear hc
        refine WP.exit ?_
        refine QP.thenE ?_
        refine QP.thenE ?_
        refine QP.blockE ?_
        refine QP.pick [0, 1] ?_
        exact QP.meet ⟨_, Option.some.inj h, rfl, rfl, rfl⟩
  · rintro _ _ _ ⟨s6, rfl, rfl, rfl, rfl⟩
    clear h
    replace h := hk7
    refine QP.next ?_
    refine WP.pick [0, 1] ?_
    refine WP.seqR ?_
    refine WL.pure 0 2 [23, 24] (L' := [(23, .slice Al0 l0.length cl0), (24, .slice Al1 l1.length cl1)]) (by kernel_rfl) (by decide) ?_
    rw [Option.bind_eq_some_iff] at h
    obtain ⟨t14, ht15, h⟩ := h
    refine WL.op (op := .call { callee := (.value (.func 21)), args := #[(.tmp 23), (.tmp 24)], argTypes := #[32, 32] }) (ty := 4) (d := some 25) (g := none) (by kernel_rfl) (by kernel_rfl) (by kernel_rfl) (Does.call (f := 21) (args := [.slice Al0 l0.length cl0, .slice Al1 l1.length cl1]) (by kernel_rfl) (fun W hI => (grapevinelaw0_SameBytes_calls k l0 l1 Al0 cl0 Hl0 Al1 cl1 Hl1 t14 ht15 hI))) ?_
    rintro _ _ _ ⟨rfl, rfl, rfl⟩
    refine WL.restQ 3 [4] (L' := [(4, .bool t14)]) (by kernel_rfl) ?_
    refine WP.ret ?_
    obtain rfl := Option.some.inj h
    exact QP.returned [4] [.bool t14] _ (by kernel_rfl) (by kernel_rfl) (by kernel_rfl) (fun W hI => ⟨_, _, _, rfl, ⟨rfl, rfl, rfl⟩, hI⟩)

/-! ### grapevine/grapevinelaw0.OverBytes: function 29 -/
def grapevinelaw0_OverBytes_l0 : Nat → Int → (List Int) → Option (List Int)
  | 0, _, _ => none
  | k + 1, y3, y4 => (if y3 < (y4.length : Int) then (if 0 ≤ y3 ∧ y3 < (y4.length : Int) then grapevinelaw0_OverBytes_l0 k (IntKind.i64.wrap (y3 + 1)) (y4.set y3.toNat 238) else none) else some y4)
def grapevinelaw0_OverBytes (k : Nat) (l0 : List Int) : Option Unit := ((grapevinelaw0_OverBytes_l0 k 0 l0).bind fun s1 => (if s1.length + ([238] : List Int).length ≤ 1073741824 then some () else none))
set_option maxHeartbeats 4000000 in
theorem grapevinelaw0_OverBytes_calls {B : World} {G : GMap} {Γ : List Chunk} {W : World} (k : Nat) (l0 : List Int) (Al0 : Option Addr) (cl0 : Nat) (Cl0 : Chunk) (Hl0 : Ow (kInt .u8) G Al0 cl0 l0 Cl0) (r : Unit) (h : grapevinelaw0_OverBytes k l0 = some r) (hI : Inv B G (Cl0 :: Γ) W) :
    Calls Try.prog 29 [.slice Al0 l0.length cl0].toArray W (Ret B (fun v G' Γ' => v = .tuple #[] ∧ G = G' ∧ Γ = Γ')) := by
  refine calls_WP (Γ := Cl0 :: Γ) (G := G) (B := B) Try.func29 rfl (by kernel_rfl) ?_ hI
  clear hI
  unfold grapevinelaw0_OverBytes at h
  refine WP.seq ?_
  refine WP.seqP [0, 2] (L' := [(0, .slice Al0 l0.length cl0), (2, .int .i64 0)]) (by kernel_rfl) ?_
  rw [Option.bind_eq_some_iff] at h
  obtain ⟨os1, h, hk2⟩ := h
  refine WP.cutQ (fun L' G' Γ' => ∃ s1 : (List Int), s1 = os1 ∧ ∃ (As1 : Option Addr), ∃ (cs1 : Nat), ∃ (Cs1 : Chunk), L' = [(0, .slice As1 s1.length cs1)] ∧ G = G' ∧ Cs1 :: Γ = Γ' ∧ Ow (kInt .u8) G As1 cs1 s1 Cs1) ?_ ?_
  · clear hk2
    refine WP.block ?_
    refine WP.pick [0, 2] ?_
    refine WP.loopF (fun k5 L' G' Γ' => ∃ (y3 : Int), ∃ (y4 : List Int), grapevinelaw0_OverBytes_l0 k5 y3 y4 = some os1 ∧ ∃ (Ay4 : Option Addr), ∃ (cy4 : Nat), ∃ (Cy4 : Chunk), L' = [(0, .slice Ay4 y4.length cy4), (2, .int .i64 y3)] ∧ G = G' ∧ Cy4 :: Γ = Γ' ∧ Ow (kInt .u8) G Ay4 cy4 y4 Cy4) ?_ k ⟨0, l0, h, Al0, cl0, Cl0, rfl, rfl, rfl, Hl0⟩
    clear h
    rintro k6 _ _ _ ⟨y3, y4, h, Ay4, cy4, Cy4, rfl, rfl, rfl, Hy4⟩
    cases k6 with
    | zero => exact absurd h (by simp [grapevinelaw0_OverBytes_l0])
    | succ k6 =>
      simp only [grapevinelaw0_OverBytes_l0] at h
      refine WP.seq ?_
      refine WP.seqP [0, 2, 6] (L' := [(0, .slice Ay4 y4.length cy4), (2, .int .i64 y3), (6, .bool (decide (y3 < (y4.length : Int))))]) (by kernel_rfl) ?_
      refine WP.cond (b := decide (y3 < (y4.length : Int))) (by kernel_rfl) (fun hc => ?_) (fun hc => ?_)
      · replace hc := of_decide_eq_true hc
        rw [if_pos hc] at h
        have hc7 := hc
        clear hc
        refine WP.skip ?_
        refine QP.next ?_
        refine WP.pick [0, 2] ?_
        refine WP.seq ?_
        refine WP.block ?_
        refine WP.region ?_
        refine WL.pure 0 2 [0, 2, 9, 10] (L' := [(0, .slice Ay4 y4.length cy4), (2, .int .i64 y3), (9, .slice Ay4 y4.length cy4), (10, .int .i64 y3)]) (by kernel_rfl) (by decide) ?_
        by_cases hb8 : 0 ≤ y3 ∧ y3 < (y4.length : Int)
        case neg => rw [if_neg hb8] at h; cases h
        rw [if_pos hb8] at h
        refine WL.tell (op := .indexAddr 32 (.tmp 9) (.tmp 10)) (ty := 0) (d := some 11) (g := none) (by kernel_rfl) (by kernel_rfl) (by kernel_rfl) (Tells.indexAddr (A := Ay4) (n := y4.length) (c := cy4) (k := .i64) (j := y3) (by kernel_rfl) (by kernel_rfl) (Hy4.isSome hb8.1 hb8.2) hb8.1 hb8.2 sl32) ?_
        refine WL.op (op := .store 5 (.tmp 11) (.const (.int .u8 238))) (ty := 0) (d := none) (g := none) (by kernel_rfl) (by kernel_rfl) (by kernel_rfl) (Ow.store Hy4 (i := 0) rfl hb8.1 hb8.2 (z := 238) (v := .int .u8 238) (by kernel_rfl) (by kernel_rfl) sz5 (by exact rfl)) ?_
        rintro _ _ _ ⟨rfl, rfl, C9, Ho10, rfl⟩
        refine WL.reput 0 (v := .slice Ay4 y4.length cy4) (v' := .slice Ay4 (y4.set y3.toNat 238).length cy4) (by kernel_rfl) (by rw [List.length_set]) ?_
        refine WL.rest 4 [0, 2] (L' := [(0, .slice Ay4 (y4.set y3.toNat 238).length cy4), (2, .int .i64 y3)]) (by kernel_rfl) ?_
        refine QP.blockN ?_
        refine QP.next ?_
        refine WP.pick [0, 2] ?_
        refine WP.regionP [0, 2] (L' := [(0, .slice Ay4 (y4.set y3.toNat 238).length cy4), (2, .int .i64 (IntKind.i64.wrap (y3 + 1)))]) (by kernel_rfl) ?_
        refine QP.pick [0, 2] ?_
        exact QP.meet ⟨k6, Nat.lt_succ_self _, (IntKind.i64.wrap (y3 + 1)), (y4.set y3.toNat 238), h, Ay4, cy4, C9, rfl, rfl, rfl, Ho10⟩
      · replace hc := of_decide_eq_false hc
        rw [if_neg hc] at h
        have hc7 := hc
        clear hc
        refine WP.exit ?_
        refine QP.thenE ?_
        refine QP.thenE ?_
        refine QP.blockE ?_
        refine QP.pick [0] ?_
        exact QP.meet ⟨_, Option.some.inj h, Ay4, cy4, Cy4, rfl, rfl, rfl, Hy4⟩
  · rintro _ _ _ ⟨s1, rfl, As1, cs1, Cs1, rfl, rfl, rfl, Hs1⟩
    clear h
    replace h := hk2
    refine QP.next ?_
    refine WP.pick [0] ?_
    refine WP.region ?_
    refine WL.pure 0 1 [12] (L' := [(12, .slice As1 s1.length cs1)]) (by kernel_rfl) (by decide) ?_
    refine WL.op (op := .buildSlice 32 1 #[(0, (.const (.int .u8 238)))]) (ty := 32) (d := some 13) (g := none) (by kernel_rfl) (by kernel_rfl) (by kernel_rfl) (Does.new (o := .cells #[.int .u8 238] 5 (0, 0)) (v := fun r => .slice (some ⟨r, 0, none⟩) 1 1) (fun r => by kernel_rfl)) ?_
    rintro _ _ _ ⟨b11, rfl, rfl, rfl⟩
    have Ho13 : Ow (kInt .u8) G (some ⟨b11, 0, none⟩) 1 ([238] : List Int) [(b11, .cells #[.int .u8 238] 5 (0, 0))] := Ow.lit (kd := (kInt .u8)) (G := G) (b := b11) (T := 5) (xs := ([238] : List Int)) (cs := [.int .u8 238]) (.cons (x := 238) (cs := [.int .u8 238]) (by exact rfl) .nil)
    by_cases hb14 : s1.length + ([238] : List Int).length ≤ 1073741824
    case neg => rw [if_neg hb14] at h; cases h
    rw [if_pos hb14] at h
    refine WL.op (op := .call { callee := (.builtin .append), args := #[(.tmp 12), (.tmp 13)], argTypes := #[32, 32] }) (ty := 32) (d := some 14) (g := none) (by kernel_rfl) (by kernel_rfl) (by kernel_rfl) (Ow.append (ys := ([238] : List Int)) (v := .slice (some ⟨b11, 0, none⟩) ([238] : List Int).length 1) Hs1 (i := 1) rfl (by kernel_rfl) (by kernel_rfl) (Ho13.src (i := 0) rfl) sl32 ze5 nt32 (by decide) hb14) ?_
    rintro _ _ _ ⟨rfl, AN15, cN15, CN15, rfl, HN15, rfl⟩
    refine WL.rest 3 [] (L' := []) (by kernel_rfl) ?_
    obtain rfl := Option.some.inj h
    refine QP.dropAt 1 ?_
    refine QP.dropAt 0 ?_
    exact QP.returnedN [] [] _ (by kernel_rfl) (by kernel_rfl) (by kernel_rfl) (fun W hI => ⟨_, _, _, rfl, ⟨rfl, rfl, rfl⟩, hI⟩)
end Go.Proofs.Ytanogihdhnhpaaa.Gf
